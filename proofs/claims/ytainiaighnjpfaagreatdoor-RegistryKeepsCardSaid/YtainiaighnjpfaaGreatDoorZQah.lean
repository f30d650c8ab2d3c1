/- A number brought to be from 0 to below another one. Registry's laws: a schema that is offered, walked. -/
import Derived.Test.YtainiaighnjpfaaGreatDoorZQn
import Derived.Test.YtainiaighnjpfaaGreatDoorZQc
import Derived.Test.YtainiaighnjpfaaGreatDoorZQag
set_option linter.unusedVariables false
set_option linter.unusedSimpArgs false
namespace Go.Proofs.YtainiaighnjpfaaGreatDoor
open Go.RowKit Go.Ms Go.Lib
theorem qEc (i n:Int) (h0: -9223372036854775808≤i) (h1:i≤9223372036854775807) (hn:0<n) (hn2:n≤4611686018427387904) (w:World) :
    Calls Tryz.prog 13 #[.int .i64 i,.int .i64 n] w fun e w'=>e=.returned (.int .i64 (i%n))∧Below w.heap.size w w':=by
 have hz:(n==0)=false:=by simp;omega
 have hz2:¬n=0:=by omega
 have hb1:i.tmod n<n:=Int.tmod_lt_of_pos _ hn
 have hb2: -n<i.tmod n:=by
  exact Int.lt_tmod_of_pos i hn
 have hw:IntKind.i64.wrap (i.tmod n)=i.tmod n:=IntWalk.i64_in _ ⟨by omega,by omega⟩
 by_cases hneg:i.tmod n<0
 · have he:i%n=i.tmod n+n:=by
     have h:=Int.tmod_eq_emod (a:=i) (b:=n)
     split at h
     · have:=Int.emod_nonneg i (b:=n) (by omega);omega
     · omega
   have hw2:IntKind.i64.wrap (i.tmod n+n)=i.tmod n+n:=IntWalk.i64_in _ ⟨by omega,by omega⟩;rw[he];clear he
   go_enter Tryz.func13,Tryz.ntmps13
   go_wp2_with fail
   go_ret
   exact⟨rfl,Below.refl _ _⟩
 · have he:i%n=i.tmod n:=by
     have h:=Int.tmod_eq_emod (a:=i) (b:=n)
     split at h
     · omega
     · have:=Int.emod_lt_of_pos i hn;omega
   rw[he];clear he
   go_enter Tryz.func13,Tryz.ntmps13
   go_wp2_with fail
   go_ret
   exact⟨rfl,Below.refl _ _⟩
end Go.Proofs.YtainiaighnjpfaaGreatDoor
set_option linter.unusedSimpArgs false
namespace Go.Ms
open Go.RowKit Go.Lib
theorem qUa {k:Nat} (h:k<7):(⟨#[99]⟩:ByteArray)++ByteArray.extract ⟨#[97,98,99,100,101,102,103]⟩ k (k+1)=ofNm k:=by
 have:k=0∨k=1∨k=2∨k=3∨k=4∨k=5∨k=6:=by omega
 rcases this with rfl|rfl|rfl|rfl|rfl|rfl|rfl <;> decide +kernel
theorem qQ6 (d:Co):(coV d).length=1*7:=rfl
theorem qUd (a:Nat) (ha:a<9223372036854775808):bits .and .i64 (a:Int) 1=(a:Int)%2:=by
 have h1:(BitVec.ofInt 64 (a:Int)).toNat=a:=by
  rw[BitVec.ofInt_natCast,BitVec.toNat_ofNat];exact Nat.mod_eq_of_lt (by omega)
 have h2:(BitVec.ofInt 64 (1:Int)).toNat=1:=by decide
 show IntKind.i64.wrap ((BitVec.ofInt 64 (a:Int) &&& BitVec.ofInt 64 1).toNat:Int)=_
 rw[BitVec.toNat_and,h1,h2,IntKind.wrap_i64,Nat.and_one_is_mod];omega
theorem qP2 (q:Int) (h0:0≤q) (h1:q<1000000) (k:Nat):bits .and .i64 (q/2^k) 1=(q/2^k)%2∧0≤q/2^k:=by
 have h2:(0:Int)≤2^k:=Int.pow_nonneg (by omega);have h3:=Int.ediv_le_self (a:=q) (2^k) h0;have h4:=Int.ediv_nonneg h0 h2;obtain⟨a,e⟩:=Int.eq_ofNat_of_zero_le h4;rw[e];exact⟨qUd a (by omega),by omega⟩
structure OfSt (tS tC tI:TypeId) (b6 kb:Nat) (A:Option Addr) (c:Nat) (cs:List Co) (w W:World):Prop where
  f2:W.heap[w.heap.size+1]?=some (.cells #[.slice none 0 0,.slice none 0 0] tS (0,0))
  f6:W.heap[b6]?=some (.cells #[.slice A cs.length c,.slice (some ⟨kb,0,none⟩) 1 1] tS (0,0))
  kk:W.heap[kb]?=some (.cells #[.int .i64 0] tI (0,0))
  own:W.ownsRow (w.heap.size+2) tC 7 (.slice A cs.length c) cs.length (colV cs)
  bel:Below w.heap.size w W
  lo:w.heap.size+2≤b6
section
variable {tS tC tI:TypeId} {b6 kb:Nat} {A:Option Addr} {c:Nat} {cs:List Co} {w W W':World}
theorem OfSt.to (h:OfSt tS tC tI b6 kb A c cs w W) (hb:Below W.heap.size W W'):OfSt tS tC tI b6 kb A c cs w W':=
  ⟨qAa h.f2 hb,qAa h.f6 hb,qAa h.kk hb,own_below h.own hb,h.bel.trans (hb.mono h.bel.size),h.lo⟩
theorem OfSt.push (h:OfSt tS tC tI b6 kb A c cs w W) (n1:tS≠tC) (n2:tI≠tC) {A':Option Addr} {c':Nat} {d:Co} (ho:W'.ownsRow (w.heap.size+2) tC 7 (.slice A' (cs.length+1) c') (cs.length+1) (colV cs++coV d)) (hg:W.grownBy W' (Value.ownBlock (.slice A cs.length c))) :
    OfSt tS tC tI b6 kb A' c' (cs++[d]) w (W'.setCell ⟨b6,0,none⟩ (.slice A' (cs.length+1) c'))∧W'.heap[b6]?=some (.cells #[.slice A cs.length c,.slice (some ⟨kb,0,none⟩) 1 1] tS (0,0)):=by
 have he:=EffT.own h.own hg;have q2:=he.keep h.f2 n1;have q6:=he.keep h.f6 n1;have qk:=he.keep h.kk n2
 have hl:(cs++[d]).length=cs.length+1:=by rw[List.length_append];rfl
 have n3:w.heap.size+1≠b6:=by have:=h.lo;omega
 have n4:kb≠b6:=fun e=>by
  have h1:=h.kk;rw[e,h.f6] at h1;simp only[Option.some.injEq,Obj.cells.injEq] at h1
  cases h1.1
 refine⟨⟨qAi q2 n3 _,by rw[hl];exact two_set0 q6 _,qAi qk n4 _,?_,?_,h.lo⟩,q6⟩
 · rw [hl,qMn,show colV [d]=coV d by simp[colV]]
   have hne:∀b,(Value.slice A' (cs.length+1) c').ownBlock=some b→b≠b6:=fun b hb e=>by
    rcases ho.2 with⟨hv,_⟩|⟨g,cap,cur,hv,_,hgb,_⟩
    · cases hv
    · rw[hv] at hb
      simp[Value.ownBlock] at hb
      rw[hb,e,q6] at hgb;simp only[Option.some.injEq,Obj.cells.injEq] at hgb;exact n1 hgb.2.1
   exact World.ownsRow.kept ho (qDm W' b6 0 _) (by
     cases hv:(Value.slice A' (cs.length+1) c').ownBlock with
     |none=>exact .inl rfl
     |some b=>exact .inr (fun e=>hne b hv (by cases e;rfl)))
 · exact(qBp h.own h.bel h.bel.size (by omega) hg).setCell (p:=⟨b6,0,none⟩) (by have:=h.lo;simp only;omega) _
theorem OfSt.fin (h:OfSt tS tC tI b6 kb A c cs w W) (hl:cs.length≤100) :
    ((W.setCell ⟨w.heap.size+1,0,none⟩ (.slice A cs.length c)).setCell ⟨w.heap.size+1,1,none⟩ (.slice (some ⟨kb,0,none⟩) 1 1)).heap[w.heap.size+1]?=some (.cells #[.slice A cs.length c,.slice (some ⟨kb,0,none⟩) 1 1] tS (0,0))∧
    qCi ((W.setCell ⟨w.heap.size+1,0,none⟩ (.slice A cs.length c)).setCell ⟨w.heap.size+1,1,none⟩ (.slice (some ⟨kb,0,none⟩) 1 1)) ((W.setCell ⟨w.heap.size+1,0,none⟩ (.slice A cs.length c)).setCell ⟨w.heap.size+1,1,none⟩ (.slice (some ⟨kb,0,none⟩) 1 1)).heap.size ⟨A,cs.length,c,some ⟨kb,0,none⟩,1,1⟩ (cs,[0])∧
    ((W.setCell ⟨w.heap.size+1,0,none⟩ (.slice A cs.length c)).setCell ⟨w.heap.size+1,1,none⟩ (.slice (some ⟨kb,0,none⟩) 1 1)).ownsRow (w.heap.size+2) tC 7 (.slice A cs.length c) cs.length (colV cs)∧
    Below w.heap.size w ((W.setCell ⟨w.heap.size+1,0,none⟩ (.slice A cs.length c)).setCell ⟨w.heap.size+1,1,none⟩ (.slice (some ⟨kb,0,none⟩) 1 1)):=by
 have n4:kb≠w.heap.size+1:=fun e=>by
  have h1:=h.kk;rw[e,h.f2] at h1;simp only[Option.some.injEq,Obj.cells.injEq] at h1
  cases h1.1
 have ho:=own_set' (own_set' h.own (i:=0) (by omega:w.heap.size+1<w.heap.size+2) (.slice A cs.length c)) (i:=1) (by omega:w.heap.size+1<w.heap.size+2) (.slice (some ⟨kb,0,none⟩) 1 1);refine⟨qEf (two_set0 h.f2 _) _,⟨rfl,rfl,by show cs.length≤100000;omega,by show 1≤100000;omega,Lay.of_own ho (Nat.le_refl _),qEz (xs:=intV [0]) (qAi (qAi h.kk n4 _) n4 _)⟩,ho,(h.bel.setCell (p:=⟨w.heap.size+1,0,none⟩) (by simp only;omega) _).setCell (p:=⟨w.heap.size+1,1,none⟩) (by simp only;omega) _⟩
end
theorem qGc (has wide fr:Int):∀n,(qCt has wide fr n).length≤n+1
  |0=>Nat.le_refl _
  |n+1=>by
   have:=qGc has wide fr n;unfold qCt
   split
   · rw[List.length_append,List.length_singleton];omega
   · omega
end Go.Ms
namespace Go.Proofs.YtainiaighnjpfaaGreatDoor
open Go.RowKit Go.Ms Go.Lib Go.Rel
def qTc (w:World) (s:Sc) (e:Ending) (w':World):Prop:= ∃r:SRef,e=.returned (.agg #[.slice r.a r.n r.c,.slice r.b r.m r.d])∧Below w.heap.size w w'∧qCi w' w'.heap.size r s∧w'.ownsRow (w.heap.size+2) 45 7 (.slice r.a r.n r.c) r.n (colV s.1)
abbrev OfS (b6 kb:Nat) (A:Option Addr) (c:Nat) (cs:List Co) (w W:World):Prop:=OfSt 33 45 3 b6 kb A c cs w W
set_option maxRecDepth 100000 in
set_option maxHeartbeats 8000000 in
theorem qFb (x:Int×Int×Int) (w:World) (h0: -9223372036854775808≤x.1∧x.1≤9223372036854775807) (h1: -9223372036854775808≤x.2.1∧x.2.1≤9223372036854775807) (h2: -9223372036854775808≤x.2.2∧x.2.2≤9223372036854775807) :
    Calls Tryz.prog 11 #[.agg #[.int .i64 x.1,.int .i64 x.2.1,.int .i64 x.2.2]] w (qTc w (qBx x)):=by
 obtain⟨ic,ci,cz0,cz1,cz2⟩:=info_parts qE2;obtain⟨x0,x1,x2⟩:=x;simp only at h0 h1 h2;obtain⟨X,hX⟩:∃X,X=(w.alloc (.cells #[.int .i64 x0,.int .i64 x1,.int .i64 x2] 35)).alloc (.cells #[.slice none 0 0,.slice none 0 0] 33):=⟨_,rfl⟩;have hz1:(w.alloc (.cells #[.int .i64 x0,.int .i64 x1,.int .i64 x2] 35)).heap.size=w.heap.size+1:=World.size_alloc _ _
 have bX:Below w.heap.size w X:=by rw[hX];exact((Below.refl _ w).alloc (Nat.le_refl _) _).alloc (by rw[hz1];omega) _
 have q1:X.heap[w.heap.size]?=some (.cells #[.int .i64 x0,.int .i64 x1,.int .i64 x2] 35 (0,0)):=by rw[hX];exact qAd (qAf _ _) _
 have q2:X.heap[w.heap.size+1]?=some (.cells #[.slice none 0 0,.slice none 0 0] 33 (0,0)):=by
  have h:=qAf (w.alloc (.cells #[.int .i64 x0,.int .i64 x1,.int .i64 x2] 35)) (.cells #[.slice none 0 0,.slice none 0 0] 33);rw[hz1] at h;rw[hX];exact h
 have hb0:=fun (W:World)=>qEc x0 256 h0.1 h0.2 (by omega) (by omega) W
 have hb1:=fun (W:World)=>qEc x1 256 h1.1 h1.2 (by omega) (by omega) W
 have hb2:=fun (W:World)=>qEc x2 4 h2.1 h2.2 (by omega) (by omega) W
 have BX:=Lib.hid bX;have Q1:=Lib.hid q1;have Q2:=Lib.hid q2;have HB0:=Lib.hid hb0;have HB1:=Lib.hid hb1;have HB2:=Lib.hid hb2
 clear bX q1 q2 hb0 hb1 hb2 hz1;obtain⟨has,hh⟩:∃q,q=x0%256:=⟨_,rfl⟩;obtain⟨wide,hwd⟩:∃q,q=x1%256:=⟨_,rfl⟩;obtain⟨fr,hf⟩:∃q,q=x2%4:=⟨_,rfl⟩
 have hs:qBx (x0,x1,x2)=(qCt has wide fr 7++(if fr%2=1 then [qEu] else []),[0]):=by unfold qBx;rw[hh,hwd,hf]
 rw[hs];obtain⟨R,hR⟩:∃R,R=qCt has wide fr 7++(if fr%2=1 then [qEu] else []):=⟨_,rfl⟩;rw[←hR];have HR:=Lib.hid hR;clear hR
 have e0:0≤has∧has<256:=by omega
 have e1:0≤wide∧wide<256:=by omega
 have e2:0≤fr∧fr<4:=by omega
 rw[←hh] at HB0;rw[←hwd] at HB1;rw[←hf] at HB2;clear hs hh hwd hf h0 h1 h2
 go_enter Tryz.func11,Tryz.ntmps11
 go_upto_region 1 with fail
 rw[←hX];clear hX;refine qAk [isV (.pointer (some ⟨w.heap.size,0,none⟩)),isV (.int .i64 x0),isV (.int .i64 has),isV (.pointer (some ⟨w.heap.size,1,none⟩)),isV (.int .i64 x1),isV (.int .i64 wide),isV (.pointer (some ⟨w.heap.size,2,none⟩)),isV (.int .i64 x2),isV (.int .i64 fr),isV (.int .i64 has),isV (.int .i64 wide),isV (.int .i64 fr)] (by kernel_rfl) (by kernel_rfl) ?_ ?_
 ·
   refine rf (fun ev wo E=>?_) ?_
   · have e1:ev (.tmp 1)=.pointer (some ⟨w.heap.size,0,none⟩):=(E.base 1 rfl).trans rfl;have ec:=E.const;go_simp
     first|exact rv|exact qAg ⟨qAc (Below.refl _ _) 1,rfl⟩
   refine rf (fun ev wo E=>?_) ?_
   · have e8:ev (.tmp 8)=.pointer (some ⟨w.heap.size,0,none⟩):=E.e 0;have hx0:=cell_of_block (i:=0) (v:=.int .i64 x0) (qAa Q1.out E.bel) rfl;go_simp
     first|exact rv|exact qAg ⟨qAc (Below.refl _ _) 1,rfl⟩
   refine rf (fun ev wo E=>?_) ?_
   · have e9:ev (.tmp 9)=.int .i64 x0:=E.e 0;have ef:=E.func;have ec:=E.const;go_simp;refine qAe ((HB0.out wo).mono ?_);rintro e w' ⟨rfl,hb⟩;exact⟨_,rfl,hb,rfl⟩
   refine rf (fun ev wo E=>?_) ?_
   · have e1:ev (.tmp 1)=.pointer (some ⟨w.heap.size,0,none⟩):=(E.base 1 rfl).trans rfl;have ec:=E.const;go_simp
     first|exact rv|exact qAg ⟨qAc (Below.refl _ _) 1,rfl⟩
   refine rf (fun ev wo E=>?_) ?_
   · have e11:ev (.tmp 11)=.pointer (some ⟨w.heap.size,1,none⟩):=E.e 0;have hx0:=cell_of_block (i:=1) (v:=.int .i64 x1) (qAa Q1.out E.bel) rfl;go_simp
     first|exact rv|exact qAg ⟨qAc (Below.refl _ _) 1,rfl⟩
   refine rf (fun ev wo E=>?_) ?_
   · have e12:ev (.tmp 12)=.int .i64 x1:=E.e 0;have ef:=E.func;have ec:=E.const;go_simp;refine qAe ((HB1.out wo).mono ?_);rintro e w' ⟨rfl,hb⟩;exact⟨_,rfl,hb,rfl⟩
   refine rf (fun ev wo E=>?_) ?_
   · have e1:ev (.tmp 1)=.pointer (some ⟨w.heap.size,0,none⟩):=(E.base 1 rfl).trans rfl;have ec:=E.const;go_simp
     first|exact rv|exact qAg ⟨qAc (Below.refl _ _) 1,rfl⟩
   refine rf (fun ev wo E=>?_) ?_
   · have e14:ev (.tmp 14)=.pointer (some ⟨w.heap.size,2,none⟩):=E.e 0;have hx0:=cell_of_block (i:=2) (v:=.int .i64 x2) (qAa Q1.out E.bel) rfl;go_simp
     first|exact rv|exact qAg ⟨qAc (Below.refl _ _) 1,rfl⟩
   refine rf (fun ev wo E=>?_) ?_
   · have e15:ev (.tmp 15)=.int .i64 x2:=E.e 0;have ef:=E.func;have ec:=E.const;go_simp;refine qAe ((HB2.out wo).mono ?_);rintro e w' ⟨rfl,hb⟩;exact⟨_,rfl,hb,rfl⟩
   refine⟨qAy 0 (qA0.free rfl) (.inr rfl) rfl rfl rfl rfl (qAm _),?_⟩;refine⟨qAy 0 (qA0.free rfl) (.inr rfl) rfl rfl rfl rfl (qAm _),?_⟩;refine⟨qAy 0 (qA0.free rfl) (.inr rfl) rfl rfl rfl rfl (qAm _),?_⟩;trivial
 · intro wz bz
   (iterate 12 rintro _ rfl)
   have B1:=Lib.hid (BX.out.trans (bz.mono BX.out.size));have Q21:=Lib.hid (qAa Q2.out bz);have ZX:=Lib.hid (show w.heap.size+2≤wz.heap.size from Nat.le_trans (Array.getElem?_eq_some_iff.1 Q2.out).1 bz.size)
   clear bz BX Q1 Q2 HB0 HB1 HB2;simp only[qA1];go_simp;have ht1:Int.tmod wide 2=wide%2:=Int.tmod_eq_emod_of_nonneg e1.1;have hw1:IntKind.i64.wrap (wide%2)=wide%2:=IntWalk.i64_in _ (by omega);have hw2:IntKind.i64.wrap (2+wide%2)=2+wide%2:=IntWalk.i64_in _ (by omega)
   obtain⟨Y,hY⟩:∃Y,Y=((wz.alloc (.cells #[.int .i64 1,.string ⟨#[107]⟩,.int .i64 (2+wide%2),.bool false,.bool false,.int .i64 0,.string ⟨#[]⟩] 45)).alloc (.cells #[.int .i64 0] 3)).alloc (.cells #[.slice (some ⟨wz.heap.size,0,none⟩) 1 1,.slice (some ⟨wz.heap.size+1,0,none⟩) 1 1] 33):=⟨_,rfl⟩;have z1:(wz.alloc (.cells #[.int .i64 1,.string ⟨#[107]⟩,.int .i64 (2+wide%2),.bool false,.bool false,.int .i64 0,.string ⟨#[]⟩] 45)).heap.size=wz.heap.size+1:=World.size_alloc _ _
   have z2:((wz.alloc (.cells #[.int .i64 1,.string ⟨#[107]⟩,.int .i64 (2+wide%2),.bool false,.bool false,.int .i64 0,.string ⟨#[]⟩] 45)).alloc (.cells #[.int .i64 0] 3)).heap.size=wz.heap.size+2:=by rw[World.size_alloc,z1]
   have bY:Below wz.heap.size wz Y:=by rw[hY];exact(((Below.refl _ _).alloc (Nat.le_refl _) _).alloc (by rw[z1];omega) _).alloc (by rw[z2];omega) _
   have st0:OfS (wz.heap.size+2) (wz.heap.size+1) (some ⟨wz.heap.size,0,none⟩) 1 (qCt has wide fr 0) w Y:=by
    have hown:(wz.alloc (.cells #[.int .i64 1,.string ⟨#[107]⟩,.int .i64 (2+wide%2),.bool false,.bool false,.int .i64 0,.string ⟨#[]⟩] 45)).ownsRow (w.heap.size+2) 45 7 (.slice (some ⟨wz.heap.size,0,none⟩) 1 1) 1 (colV [qPv wide]):=
      qB1 (World.ownsRow_lit (base:=wz.heap.size) (e:=45) (size:=7) wz #[.int .i64 1,.string ⟨#[107]⟩,.int .i64 (2+wide%2),.bool false,.bool false,.int .i64 0,.string ⟨#[]⟩] 1 (Nat.le_refl _) (by unfold maxLen;omega) rfl) ZX.out
    refine⟨qAa Q21.out bY,?_,?_,?_,B1.out.trans (bY.mono B1.out.size),by have:=ZX.out;omega⟩
    · have h:=qAf ((wz.alloc (.cells #[.int .i64 1,.string ⟨#[107]⟩,.int .i64 (2+wide%2),.bool false,.bool false,.int .i64 0,.string ⟨#[]⟩] 45)).alloc (.cells #[.int .i64 0] 3)) (.cells #[.slice (some ⟨wz.heap.size,0,none⟩) 1 1,.slice (some ⟨wz.heap.size+1,0,none⟩) 1 1] 33);rw[z2] at h;rw[hY];exact h
    · have h:=qAd (qAf (wz.alloc (.cells #[.int .i64 1,.string ⟨#[107]⟩,.int .i64 (2+wide%2),.bool false,.bool false,.int .i64 0,.string ⟨#[]⟩] 45)) (.cells #[.int .i64 0] 3)) (.cells #[.slice (some ⟨wz.heap.size,0,none⟩) 1 1,.slice (some ⟨wz.heap.size+1,0,none⟩) 1 1] 33);rw[z1] at h;rw[hY];exact h
    · rw[hY];exact own_below (own_below hown ((Below.refl _ _).alloc (Nat.le_refl _) _)) ((Below.refl _ _).alloc (Nat.le_refl _) _)
   have ST:=Lib.hid st0;clear st0 bY z1 z2 B1 Q21 ZX
   go_upto_region 3 with fail
   rw[←hY]
   generalize wz.heap.size+2=b6 at ST ⊢
   generalize wz.heap.size+1=kb at ST
   clear hY;clear ht1 hw1 hw2
   generalize wz.heap.size=b0 at ST ⊢
   go_wp2_with fail
   go_loopw [7] (fun s7 wr=> ∃(k:Nat) (A:Option Addr) (c:Nat),k≤7∧s7=.int .i64 k∧OfS b6 kb A c (qCt has wide fr k) w wr) (fun s7 _=>7-(RowKit.intOf s7).toNat)
   case atStart=>exact⟨0,_,_,by omega,rfl,ST.out⟩
   case round=>
    obtain⟨k,A,c,hk,rfl,hst⟩:=hrel;have HS:=Lib.hid hst;clear hst ST
    by_cases hk2:k<7
    · have tk:(k:Int)<7:=by omega
      have tk0:(0:Int)≤k:=by omega
      have hbit:=(qP2 has e0.1 (by omega) k).1
      by_cases hb:(has/2^k)%2=1
      · have hb2:((has/2^k)%2==1)=true:=by rw[hb];rfl
        have hb3:(bits .and .i64 (has/2^k) 1==1)=true:=by rw[hbit,hb];rfl
        have hcs:qCt has wide fr (k+1)=qCt has wide fr k++[qJ6 wide fr k]:=by show(if (has/2^k)%2=1 then _ else _)=_;rw[if_pos hb]
        have HCS:=Lib.hid hcs;have hcl:=qGc has wide fr k;rw[hb] at hbit;clear hcs hb
        generalize qCt has wide fr k=cs at HS HCS hcl
        go_upto_region 7 with fail
        clear hb2 hb3 hbit;have tfr:Int.tdiv fr 2=fr/2:=Int.tdiv_eq_ediv_of_nonneg e2.1;have w2k:IntKind.i64.wrap (2+(k:Int))=2+(k:Int):=IntWalk.i64_in _ (by omega);have wf:IntKind.i64.wrap (fr/2)=fr/2:=IntWalk.i64_in _ (by omega);have w7f:IntKind.i64.wrap (7*(fr/2))=7*(fr/2):=IntWalk.i64_in _ (by omega);have wid:IntKind.i64.wrap (2+(k:Int)+7*(fr/2))=2+(k:Int)+7*(fr/2):=IntWalk.i64_in _ (by omega);have wk1:IntKind.i64.wrap ((k:Int)+1)=(k:Int)+1:=IntWalk.i64_in _ (by omega)
        have w1k:IntKind.i64.wrap (1+(k:Int))=1+(k:Int):=IntWalk.i64_in _ (by omega)
        have h2:(k:Int)+1≤7:=by omega
        have h3:(0:Int)≤(k:Int)+1:=by omega
        have h4:((k:Int)+1).toNat=k+1:=by omega
        have h5:k≤k+1:=by omega
        have h6:k+1≤7:=by omega
        have h7:(k:Int)≤(k:Int)+1:=by omega
        have h8:¬(9223372036854775807<1+(min (k+1) 7-k)):=by omega
        have h9:(0:Int)≤k:=by omega
        have h10:¬((k:Int)+1<k):=by omega
        have h11:¬((7:Int)<(k:Int)+1):=by omega
        have s1:(0:Int)≤1+(k:Int):=by omega
        have s2:(1+(k:Int)).toNat=k+1:=by omega
        have s3:¬(1+(k:Int)<0):=by omega
        have bw:=(qP2 wide e1.1 (by omega) (k+1)).1;have w2w:IntKind.i64.wrap (2+wide/2^(k+1)%2)=2+wide/2^(k+1)%2:=IntWalk.i64_in _ (by omega)
        refine qDe (l:=[_,_,_,_,_,_,_,_,_,_,_,_,_,_,_,_,_,_,_,_,_,_,_,_]) (o:=_) (t:=[_,_]) [isV (.pointer (some ⟨b6,0,none⟩)),isV (.slice A cs.length c),isV (.int .i64 (k:Nat)),isV (.int .i64 (2+(k:Int))),isV (.int .i64 fr),isV (.int .i64 (fr/2)),isV (.int .i64 (7*(fr/2))),isV (.int .i64 (2+(k:Int)+7*(fr/2))),isV (.int .i64 (k:Nat)),isV (.int .i64 (k:Nat)),isV (.int .i64 ((k:Int)+1)),isV (.string (ByteArray.extract ⟨#[97,98,99,100,101,102,103]⟩ k (k+1))),isV (.string ((⟨#[99]⟩:ByteArray)++ByteArray.extract ⟨#[97,98,99,100,101,102,103]⟩ k (k+1))),isV (.int .i64 wide),isV (.int .i64 (k:Nat)),isV (.int .i64 (1+(k:Int))),isV (.int .i64 (wide/2^(k+1))),isV (.int .i64 (wide/2^(k+1)%2)),isV (.int .i64 (2+wide/2^(k+1)%2)),isV (.agg #[.int .i64 (2+wide/2^(k+1)%2),.bool false]),isV (.int .i64 (k:Nat)),isV (.agg #[.bool false,.int .i64 (k:Nat),.string ⟨#[]⟩]),isV (.agg #[.int .i64 (2+(k:Int)+7*(fr/2)),.string ((⟨#[99]⟩:ByteArray)++ByteArray.extract ⟨#[97,98,99,100,101,102,103]⟩ k (k+1)),.int .i64 (2+wide/2^(k+1)%2),.bool false,.bool false,.int .i64 (k:Nat),.string ⟨#[]⟩]),newS 1 #[.int .i64 (2+(k:Int)+7*(fr/2)),.string ((⟨#[99]⟩:ByteArray)++ByteArray.extract ⟨#[97,98,99,100,101,102,103]⟩ k (k+1)),.int .i64 (2+wide/2^(k+1)%2),.bool false,.bool false,.int .i64 (k:Nat),.string ⟨#[]⟩] 45] (by kernel_rfl) (by kernel_rfl) (by kernel_rfl) (by kernel_rfl) (by kernel_rfl) (by kernel_rfl) (by kernel_rfl) ?_ ?_
        ·
          refine rf (fun ev wo E=>?_) ?_
          · have e6:ev (.tmp 6)=.pointer (some ⟨b6,0,none⟩):=(E.base 6 rfl).trans rfl;go_simp
            first|exact rv|exact qAg ⟨qAc (Below.refl _ _) 1,rfl⟩
          refine rf (fun ev wo E=>?_) ?_
          · have e34:ev (.tmp 34)=.pointer (some ⟨b6,0,none⟩):=E.e 0;have hx0:=cell_of_block (i:=0) (v:=.slice A cs.length c) (qAa HS.out.f6 E.bel) rfl;go_simp
            first|exact rv|exact qAg ⟨qAc (Below.refl _ _) 1,rfl⟩
          refine rb ?_;refine rf (fun ev wo E=>?_) ?_
          · have e36:ev (.tmp 36)=.int .i64 (k:Nat):=E.e 0;have ec:=E.const;have q0:=w2k;go_simp
            first|exact rv|exact qAg ⟨qAc (Below.refl _ _) 1,rfl⟩
          refine rb ?_;refine rf (fun ev wo E=>?_) ?_
          · have e38:ev (.tmp 38)=.int .i64 fr:=E.e 0;have ec:=E.const;have q0:=tfr;have q1:=wf;go_simp
            first|exact rv|exact qAg ⟨qAc (Below.refl _ _) 1,rfl⟩
          refine rf (fun ev wo E=>?_) ?_
          · have e39:ev (.tmp 39)=.int .i64 (fr/2):=E.e 0;have ec:=E.const;have q0:=w7f;go_simp
            first|exact rv|exact qAg ⟨qAc (Below.refl _ _) 1,rfl⟩
          refine rf (fun ev wo E=>?_) ?_
          · have e37:ev (.tmp 37)=.int .i64 (2+(k:Int)):=E.e 0;have e40:ev (.tmp 40)=.int .i64 (7*(fr/2)):=E.e 1;have q0:=wid;go_simp
            first|exact rv|exact qAg ⟨qAc (Below.refl _ _) 1,rfl⟩
          refine rb ?_;refine rb ?_;refine rf (fun ev wo E=>?_) ?_
          · have e43:ev (.tmp 43)=.int .i64 (k:Nat):=E.e 0;have ec:=E.const;have q0:=wk1;go_simp
            first|exact rv|exact qAg ⟨qAc (Below.refl _ _) 1,rfl⟩
          refine rf (fun ev wo E=>?_) ?_
          · have e42:ev (.tmp 42)=.int .i64 (k:Nat):=E.e 0;have e44:ev (.tmp 44)=.int .i64 ((k:Int)+1):=E.e 1;have ec:=E.const;have q0:=h2;have q1:=h3;have q2:=h4;have q3:=h5;have q4:=h6;have q5:=h7;have q6:=h9;have q7:=h10;have q8:=h11;go_simp
            first|exact rv|exact qAg ⟨qAc (Below.refl _ _) 1,rfl⟩
          refine rf (fun ev wo E=>?_) ?_
          · have e45:ev (.tmp 45)=.string (ByteArray.extract ⟨#[97,98,99,100,101,102,103]⟩ k (k+1)):=E.e 0;have ec:=E.const;have q0:=h8;have q1:=h2;have q2:=h4;have q3:=h5;have q4:=h6;go_simp
            first|exact rv|exact qAg ⟨qAc (Below.refl _ _) 1,rfl⟩
          refine rb ?_;refine rb ?_;refine rf (fun ev wo E=>?_) ?_
          · have e48:ev (.tmp 48)=.int .i64 (k:Nat):=E.e 0;have ec:=E.const;have q0:=w1k;go_simp
            first|exact rv|exact qAg ⟨qAc (Below.refl _ _) 1,rfl⟩
          refine rf (fun ev wo E=>?_) ?_
          · have e47:ev (.tmp 47)=.int .i64 wide:=E.e 0;have e49:ev (.tmp 49)=.int .i64 (1+(k:Int)):=E.e 1;have q0:=s1;have q1:=s2;have q2:=s3;go_simp
            first|exact rv|exact qAg ⟨qAc (Below.refl _ _) 1,rfl⟩
          refine rf (fun ev wo E=>?_) ?_
          · have e50:ev (.tmp 50)=.int .i64 (wide/2^(k+1)):=E.e 0;have ec:=E.const;have q0:=bw;go_simp
            first|exact rv|exact qAg ⟨qAc (Below.refl _ _) 1,rfl⟩
          refine rf (fun ev wo E=>?_) ?_
          · have e51:ev (.tmp 51)=.int .i64 (wide/2^(k+1)%2):=E.e 0;have ec:=E.const;have q0:=w2w;go_simp
            first|exact rv|exact qAg ⟨qAc (Below.refl _ _) 1,rfl⟩
          refine rf (fun ev wo E=>?_) ?_
          · have e52:ev (.tmp 52)=.int .i64 (2+wide/2^(k+1)%2):=E.e 0;go_simp
            first|exact rv|exact qAg ⟨qAc (Below.refl _ _) 1,rfl⟩
          refine rb ?_;refine rf (fun ev wo E=>?_) ?_
          · have e54:ev (.tmp 54)=.int .i64 (k:Nat):=E.e 0;go_simp
            first|exact rv|exact qAg ⟨qAc (Below.refl _ _) 1,rfl⟩
          refine rf (fun ev wo E=>?_) ?_
          · have e41:ev (.tmp 41)=.int .i64 (2+(k:Int)+7*(fr/2)):=E.e 0;have e46:ev (.tmp 46)=.string ((⟨#[99]⟩:ByteArray)++ByteArray.extract ⟨#[97,98,99,100,101,102,103]⟩ k (k+1)):=E.e 1;have e53:ev (.tmp 53)=.agg #[.int .i64 (2+wide/2^(k+1)%2),.bool false]:=E.e 2;have e55:ev (.tmp 55)=.agg #[.bool false,.int .i64 (k:Nat),.string ⟨#[]⟩]:=E.e 3;go_simp
            first|exact rv|exact qAg ⟨qAc (Below.refl _ _) 1,rfl⟩
          refine⟨qBs (qA0.free rfl) (qE7 _ _ _) (fun ev wo E=>?_),?_⟩
          · have e56:ev (.tmp 56)=.agg #[.int .i64 (2+(k:Int)+7*(fr/2)),.string ((⟨#[99]⟩:ByteArray)++ByteArray.extract ⟨#[97,98,99,100,101,102,103]⟩ k (k+1)),.int .i64 (2+wide/2^(k+1)%2),.bool false,.bool false,.int .i64 (k:Nat),.string ⟨#[]⟩]:=E.e 0;go_simp;exact qAg (qF7 _ _ _ _)
          trivial
        · intro wz bz
          (iterate 23 rintro _ rfl)
          intro v57 h57
          have e57:=Classical.choose_spec h57
          generalize Classical.choose h57=gn at e57
          have q57:=e57.1;subst q57;have nm:=qUa hk2
          have l57:wz.heap[gn]?=some (.cells (coV (qJ6 wide fr k)).toArray 45 (0,0)):=by
           have h:=e57.2;rw[nm] at h;exact h
          have n1:(33:TypeId)≠45:=by decide
          have n2:(3:TypeId)≠45:=by decide
          have hz:=HS.out.to bz
          have hone:∀u∈coV (qJ6 wide fr k),u.oneCell'=true:=fun u hu=>qG3 [qJ6 wide fr k] u (by simpa[colV] using hu)
          have hmx:cs.length+1≤maxLen:=by unfold maxLen;omega
          have hby:(cs.length+1)*72≤140737488355328:=by omega
          have hsz:w.heap.size+2≤wz.heap.size:=by have:=(Array.getElem?_eq_some_iff.1 hz.f6).1;have:=hz.lo;omega
          simp only[qA1,qHz];refine qDq (.tmp 35) (.tmp 57) 30 rfl (w.heap.size+2) 45 ic _ 7 72 qCp ci cz0 cz1 cz2 rfl (by omega) (.slice A cs.length c) cs.length (colV cs) (by go_simp) hz.own _ (some ⟨gn,0,none⟩) 1 1 (coV (qJ6 wide fr k)) (by go_simp) (qQ6 _) (qEz l57) hone hmx hby hsz ?_
          intro v8 w8 hown8 hg8
          have hq:=qAh hown8;have hq1:=Classical.choose_spec hq
          generalize Classical.choose hq=A8 at hq1
          have hq2:=Classical.choose_spec hq1
          generalize Classical.choose hq1=c8 at hq2
          have e8:=hq2.1;subst e8;have hp:=hz.push n1 n2 hown8 hg8;have x6:=cell_of_block (i:=0) (v:=.slice A cs.length c) hp.2 rfl;have g6:=qAb (i:=0) hp.2;have NS:=Lib.hid hp.1;clear hp hq hq1 hq2 hown8 hg8 hz n1 n2 l57 nm e57 h57 bz HS tfr w2k wf w7f wid w1k h2 h3 h4 h5 h6 h7 h8 h9 h10 h11 s1 s2 s3 bw w2w;unfold Oper.wp;go_simp
          go_wp2_with fail
          refine⟨⟨k+1,A8,c8,by omega,by go_num,?_⟩,by simp[RowKit.intOf];omega⟩;rw[HCS.out];have hn:=NS.out
          simpa using hn
      · have hb2:((has/2^k)%2==1)=false:=by rw[beq_eq_false_iff_ne];exact hb
        have hb3:(bits .and .i64 (has/2^k) 1==1)=false:=by rw[hbit];exact hb2
        have hcs:qCt has wide fr (k+1)=qCt has wide fr k:=by show(if (has/2^k)%2=1 then _ else _)=_;rw[if_neg hb]
        have HCS:=Lib.hid hcs;clear hcs
        go_wp2_with fail
        refine⟨⟨k+1,A,c,by omega,by go_num,?_⟩,by simp[RowKit.intOf];omega⟩;rw[HCS.out];exact HS.out
    · obtain rfl:k=7:=by omega
      have hcl:=qGc has wide fr 7
      generalize qCt has wide fr 7=cs at HS hcl HR
      have ht1:Int.tmod fr 2=fr%2:=Int.tmod_eq_emod_of_nonneg e2.1;have hw1:IntKind.i64.wrap (fr%2)=fr%2:=IntWalk.i64_in _ (by omega)
      by_cases hf:fr%2=1
      · have hf2:(fr%2==1)=true:=by rw[hf];rfl
        have hR:=HR.out;rw[if_pos hf] at hR;have HR2:=Lib.hid hR;clear hR;have bn:=(Below.refl wr.heap.size wr).alloc (Nat.le_refl _) (.cells #[.int .i64 30,.string ⟨#[108,97,115,116]⟩,.int .i64 4,.bool true,.bool true,.int .i64 0,.string ⟨#[]⟩] 45);have y0:=cell_of_block (i:=0) (v:=.slice A cs.length c) HS.out.f6 rfl
        have SN:=Lib.hid (HS.out.to bn);have HNW:=Lib.hid (qDr wr (coV qEu) 45);have HONE:=Lib.hid (fun u hu=>qG3 [qEu] u (by simpa[colV] using hu):∀u∈coV qEu,u.oneCell'=true)
        have HSZ:=Lib.hid (show w.heap.size+2≤(wr.alloc (.cells #[.int .i64 30,.string ⟨#[108,97,115,116]⟩,.int .i64 4,.bool true,.bool true,.int .i64 0,.string ⟨#[]⟩] 45)).heap.size from by have:=(Array.getElem?_eq_some_iff.1 SN.out.f6).1;have:=SN.out.lo;omega)
        have n1:(33:TypeId)≠45:=by decide
        have n2:(3:TypeId)≠45:=by decide
        have y6:=cell_of_block (i:=0) (v:=.slice A cs.length c) SN.out.f6 rfl;clear bn HS hf
        go_wp2_with (at_builtin;refine qA5 rfl (.tmp 64) (.tmp 68) _ rfl (w.heap.size+2) 45 ic _ 7 72 qCp ci cz0 cz1 cz2 rfl (by omega) _ _ _ rfl SN.out.own _ (some ⟨wr.heap.size,0,none⟩) 1 1 (coV qEu) rfl rfl HNW.out HONE.out (by unfold maxLen;omega) (by omega) HSZ.out ?_;intro v8 w8 hown8 hg8;obtain⟨A8,c8,e8,-⟩:=qAh hown8;subst e8;have hp:=SN.out.push n1 n2 hown8 hg8;have x6:=cell_of_block (i:=0) (v:=.slice A cs.length c) hp.2 rfl;have g6:=qAb (i:=0) hp.2;have NS:=Lib.hid hp.1;have u0:=cell_of_block (i:=0) (v:=.slice A8 (cs++[qEu]).length c8) hp.1.f6 rfl;have u1:=cell_of_block (i:=1) (v:=.slice (some ⟨kb,0,none⟩) 1 1) hp.1.f6 rfl;have v0:=cell_of_block (i:=0) (v:=.slice none 0 0) hp.1.f2 rfl;have v1:=cell_of_block (i:=1) (v:=.slice none 0 0) hp.1.f2 rfl;have t0:=qAb (i:=0) hp.1.f2;have t1:=qAb (i:=1) hp.1.f2;clear hp hown8 hg8)
        have hfin:=NS.out.fin (by rw[List.length_append];simp only[List.length_singleton];omega)
        have hl1:(cs++[qEu]).length=cs.length+1:=by rw[List.length_append];rfl
        rw[hl1] at hfin;refine bodyPost_ret (results_cell_row (P:=Tryz.prog) rfl _ _ (w.heap.size+1) 33 _ (0,0) _ rfl hfin.1 Tryz.underlying33 rfl (by kernel_rfl)) rfl ?_;rw[HR2.out];exact⟨_,rfl,hfin.2.2.2,hfin.2.1,hfin.2.2.1⟩
      · have hf2:(fr%2==1)=false:=by rw[beq_eq_false_iff_ne];exact hf
        have hR:=HR.out;rw[if_neg hf,List.append_nil] at hR;have HR2:=Lib.hid hR;clear hR;have u0:=cell_of_block (i:=0) (v:=.slice A cs.length c) HS.out.f6 rfl;have u1:=cell_of_block (i:=1) (v:=.slice (some ⟨kb,0,none⟩) 1 1) HS.out.f6 rfl;have v0:=cell_of_block (i:=0) (v:=.slice none 0 0) HS.out.f2 rfl;have v1:=cell_of_block (i:=1) (v:=.slice none 0 0) HS.out.f2 rfl;have t0:=qAb (i:=0) HS.out.f2;have t1:=qAb (i:=1) HS.out.f2;clear hf
        go_wp2_with fail
        have hfin:=HS.out.fin (by omega);refine bodyPost_ret (results_cell_row (P:=Tryz.prog) rfl _ _ (w.heap.size+1) 33 _ (0,0) _ rfl hfin.1 Tryz.underlying33 rfl (by kernel_rfl)) rfl ?_;rw[HR2.out];exact⟨_,rfl,hfin.2.2.2,hfin.2.1,hfin.2.2.1⟩
end Go.Proofs.YtainiaighnjpfaaGreatDoor
