/- Cells: what a type's kind can do. -/
import Derived.Test.YtainiaighnjpfaaGreatDoorZQi
import Derived.Deep.RegionHeld3
import Derived.Laws.EntriesVeiled
set_option linter.unusedVariables false
set_option linter.unusedSimpArgs false
namespace Go.Proofs.YtainiaighnjpfaaGreatDoor
open Go.RowKit Go.Ms Go.Lib
abbrev fnV (f:Nat):Value:=.func (.func f) #[] #[]
abbrev qB9 (a b:Nat):Value:=.func (.func 145) #[] #[.pointer (some ⟨a,0,none⟩),.pointer (some ⟨b,0,none⟩)]
abbrev qJk (a:Nat):Value:=.func (.func 156) #[] #[.pointer (some ⟨a,0,none⟩)]
def zBc (k:Int) (v:Value) (w:World):Prop:=
  (k=1∧∃a b,v=.agg #[qB9 a b,fnV 147,fnV 149,fnV 150,fnV 151]∧w.cell? ⟨a,0,none⟩=some (.int .i64 0)∧w.cell? ⟨b,0,none⟩=some (.int .i64 1))∨
  (k=2∧∃a b,v=.agg #[qB9 a b,fnV 152,fnV 153,fnV 154,fnV 155]∧w.cell? ⟨a,0,none⟩=some (.int .i64 (-2147483648))∧w.cell? ⟨b,0,none⟩=some (.int .i64 2147483647))∨
  (k=3∧∃a b,v=.agg #[qB9 a b,fnV 152,fnV 153,fnV 154,fnV 155]∧w.cell? ⟨a,0,none⟩=some (.int .i64 (-9223372036854775808))∧w.cell? ⟨b,0,none⟩=some (.int .i64 9223372036854775807))∨
  (k=4∧∃a,v=.agg #[qJk a,fnV 158,fnV 159,fnV 160,fnV 161]∧w.cell? ⟨a,0,none⟩=some (fnV 146))∨
  (k=5∧v=.agg #[fnV 146,fnV 162,fnV 163,fnV 160,fnV 161])
structure qJ0 (lo hi:Int) (w:World) (a b:Nat) (w':World):Prop where
  ca:w'.cell? ⟨a,0,none⟩=some (.int .i64 lo)
  cb:w'.cell? ⟨b,0,none⟩=some (.int .i64 hi)
  bel:Below w.heap.size w w'
  la:w.heap.size≤a
  lb:w.heap.size≤b
theorem qOe (lo hi:Int) (w:World) :
    Calls Tryz.prog 144 #[.int .i64 lo,.int .i64 hi] w fun e w'=>e=.returned (qB9 w.heap.size (w.heap.size+1))∧(w.alloc (.cells #[.int .i64 lo] 2)).alloc (.cells #[.int .i64 hi] 2)=w':=by
 have hmf:∀(fn:Fn) (first cap:Array Value) (w:World),(Instr.makeFunc fn first cap).run Tryz.prog w=.ok (.func fn first cap) w:=fun _ _ _ _=>rfl
 go_enter Tryz.func144,Tryz.ntmps144;go_wp2
 go_ret;exact⟨rfl,rfl⟩
theorem qHu (lo hi:Int) (w:World) :
    Calls Tryz.prog 144 #[.int .i64 lo,.int .i64 hi] w fun e w'=> ∃a b,e=.returned (qB9 a b)∧qJ0 lo hi w a b w':=
  (qOe lo hi w).mono fun e w' ⟨he,hw⟩=>⟨_,_,he,by
   subst hw;have hb:Below w.heap.size w ((w.alloc (.cells #[.int .i64 lo] 2)).alloc (.cells #[.int .i64 hi] 2)):=((Below.refl _ w).alloc le_ _).alloc (by simp) _;refine⟨?_,?_,hb,Nat.le_refl _,by omega⟩
   · have h1:(w.alloc (.cells #[.int .i64 lo] 2)).heap[w.heap.size]?=some (.cells #[.int .i64 lo] 2 (0,0)):=heap_alloc_new w _;rw[Lib.cell_of_heap (by rw[Lib.alloc_old _ _ _ (by simp)];exact h1)];rfl
   · have h1:=heap_alloc_new (w.alloc (.cells #[.int .i64 lo] 2)) (.cells #[.int .i64 hi] 2);rw[show(w.alloc (.cells #[.int .i64 lo] 2)).heap.size=w.heap.size+1 by simp] at h1
     rw[Lib.cell_of_heap h1];rfl⟩
structure St (W:World) (t:Nat) (ps:List (Nat×Int)) (w:World):Prop where
  cells:∀p∈ps,w.cell? ⟨p.1,0,none⟩=some (.int .i64 p.2)
  held:w.cell? ⟨t,0,none⟩=some (fnV 146)
  bel:Below W.heap.size W w
structure StX (W:World) (t x:Nat) (ps:List (Nat×Int)) (C:Array Value) (T:TypeId) (w:World):Prop where
  st:St W t ps w
  blk:w.heap[x]?=some (.cells C T (0,0))
  ne:∀p∈ps,p.1≠x
  nt:t≠x
  lx:W.heap.size≤x
theorem St.call {W:World} {t:Nat} {ps:List (Nat×Int)} {w w':World} {lo hi:Int} {a b:Nat} (h:St W t ps w) (hm:qJ0 lo hi w a b w'):St W t ((a,lo)::(b,hi)::ps) w':=by
 refine⟨fun p hp=>?_,by rw[hm.bel.cell (qAg h.held)];exact h.held,h.bel.trans (hm.bel.mono h.bel.size)⟩;rcases List.mem_cons.1 hp with rfl|hp
 · exact hm.ca
 rcases List.mem_cons.1 hp with rfl|hp
 · exact hm.cb
 · rw[hm.bel.cell (qAg (h.cells p hp))];exact h.cells p hp
theorem St.tab {W:World} {t:Nat} {ps:List (Nat×Int)} {w:World} (h:St W t ps w) (C:Array Value) (T:TypeId):StX W t w.heap.size ps C T (w.alloc (.cells C T)):=by
 have hb:Below w.heap.size w (w.alloc (.cells C T)):=br_.alloc le_ _;refine⟨⟨fun p hp=>by rw[hb.cell (qAg (h.cells p hp))];exact h.cells p hp,by rw[hb.cell (qAg h.held)];exact h.held,h.bel.trans (hb.mono h.bel.size)⟩,heap_alloc_new w _,fun p hp e=>?_,fun e=>?_,h.bel.size⟩
 · have:=qAg (h.cells p hp);simp only at this;omega
 · have:=qAg h.held;simp only at this;omega
theorem StX.call {W:World} {t x:Nat} {ps:List (Nat×Int)} {C:Array Value} {T:TypeId} {w w':World} {lo hi:Int} {a b:Nat} (h:StX W t x ps C T w) (hm:qJ0 lo hi w a b w'):StX W t x ((a,lo)::(b,hi)::ps) C T w':=by
 have hx:x<w.heap.size:=(Array.getElem?_eq_some_iff.1 h.blk).1;have h1:=hm.la;have h2:=hm.lb;refine⟨h.st.call hm,by rw[hm.bel.block x hx];exact h.blk,fun p hp=>?_,h.nt,h.lx⟩;rcases List.mem_cons.1 hp with rfl|hp
 · simp only;omega
 rcases List.mem_cons.1 hp with rfl|hp
 · simp only;omega
 · exact h.ne p hp
abbrev tabV (a1 b1 a2 b2 a3 b3 t:Nat):Array Value:=#[.nilFunc,.nilFunc,.nilFunc,.nilFunc,.nilFunc,
  qB9 a1 b1,fnV 147,fnV 149,fnV 150,fnV 151,
  qB9 a2 b2,fnV 152,fnV 153,fnV 154,fnV 155,
  qB9 a3 b3,fnV 152,fnV 153,fnV 154,fnV 155,
  qJk t,fnV 158,fnV 159,fnV 160,fnV 161,
  fnV 146,fnV 162,fnV 163,fnV 160,fnV 161]
abbrev tabN:Array Value:=#[.nilFunc,.nilFunc,.nilFunc,.nilFunc,.nilFunc,.nilFunc,.nilFunc,.nilFunc,.nilFunc,.nilFunc,.nilFunc,.nilFunc,.nilFunc,.nilFunc,.nilFunc,.nilFunc,.nilFunc,.nilFunc,.nilFunc,.nilFunc,.nilFunc,.nilFunc,.nilFunc,.nilFunc,.nilFunc,.nilFunc,.nilFunc,.nilFunc,.nilFunc,.nilFunc]
structure qHk (W w':World) (x a1 b1 a2 b2 a3 b3 t:Nat):Prop where
  tab:w'.rangeAt x 0 (tabV a1 b1 a2 b2 a3 b3 t).toList
  c1:w'.cell? ⟨a1,0,none⟩=some (.int .i64 0)
  d1:w'.cell? ⟨b1,0,none⟩=some (.int .i64 1)
  c2:w'.cell? ⟨a2,0,none⟩=some (.int .i64 (-2147483648))
  d2:w'.cell? ⟨b2,0,none⟩=some (.int .i64 2147483647)
  c3:w'.cell? ⟨a3,0,none⟩=some (.int .i64 (-9223372036854775808))
  d3:w'.cell? ⟨b3,0,none⟩=some (.int .i64 9223372036854775807)
  ct:w'.cell? ⟨t,0,none⟩=some (fnV 146)
  below:Below W.heap.size W w'
theorem below_setCells {B:Nat} {a:World} (b:Nat) (hb:B≤b):∀(vs:List Value) (o:Nat) (w:World),Below B a w→Below B a (w.setCells b o vs)
  |[],_,_,h=>h
  |v::r,o,w,h=>below_setCells b hb r (o+1) _ (h.setCell (p:=⟨b,o,none⟩) hb v)
theorem qCe {w:World} {b':Nat} {v:Value} (h:w.cell? ⟨b',0,none⟩=some v) (b:Nat) (vs:List Value) (hne:b'≠b):(w.setCells b 0 vs).cell? ⟨b',0,none⟩=some v:=by
 have h1:w.rangeAt b' 0 [v]:=fun j u hu=>by
  match j,hu with
  |0,hu=>simp at hu;subst hu;exact h
 exact World.rangeAt_setCells_apart h1 b 0 vs (Or.inl hne) 0 v rfl
theorem qHc {w:World} {b:Nat} {C:Array Value} {T:TypeId} (h:w.heap[b]?=some (.cells C T (0,0))) (n:Nat) (hn:n=C.size):w.there b 0 n:=fun j hj=>by
 subst hn;refine⟨?_,?_⟩
 · rw[Nat.zero_add,Lib.cell_of_heap h];simp[hj]
 · rw[Nat.zero_add];exact Lib.frozen_of_heap h j
theorem StX.there {W:World} {t x:Nat} {ps:List (Nat×Int)} {T:TypeId} {w:World} (h:StX W t x ps tabN T w):w.there x 0 30:=qHc h.blk 30 rfl
theorem StX.held {W:World} {t x:Nat} {ps:List (Nat×Int)} {C:Array Value} {T:TypeId} {w:World} (h:StX W t x ps C T w) (vs:List Value):(w.setCells x 0 vs).cell? ⟨t,0,none⟩=some (fnV 146):=qCe h.st.held x vs h.nt
theorem qHk.part {W w':World} {x a1 b1 a2 b2 a3 b3 t:Nat} (h:qHk W w' x a1 b1 a2 b2 a3 b3 t) (k:Nat):w'.rangeAt x (5*k) (((tabV a1 b1 a2 b2 a3 b3 t).toList.drop (5*k)).take 5):=fun j v hv=>by
 have:=h.tab (5*k+j) v (by
   rw[List.getElem?_take] at hv;split at hv
   · rwa [List.getElem?_drop] at hv
   · cases hv)
 rwa [Nat.zero_add] at this
theorem qFn {w:World} {a b:Nat} {u v:Value} (h:w.cell? ⟨a,0,none⟩=some u) (g:w.cell? ⟨b,0,none⟩=some v) (hne:u≠v):a≠b:=by
 intro e;subst e;rw[h] at g;exact hne (Option.some.inj g)
theorem StX.done {W:World} {t x a1 b1 a2 b2 a3 b3:Nat} {T:TypeId} {w:World} (h:StX W t x [(a3, -9223372036854775808),(b3,9223372036854775807),(a2, -2147483648),(b2,2147483647),(a1,0),(b1,1)] tabN T w) :
    qHk W (w.setCells x 0 (tabV a1 b1 a2 b2 a3 b3 t).toList) x a1 b1 a2 b2 a3 b3 t:=by
 have hp:∀p∈[(a3, -9223372036854775808),(b3,9223372036854775807),(a2, -2147483648),(b2,2147483647),(a1,(0:Int)),(b1,1)],(w.setCells x 0 (tabV a1 b1 a2 b2 a3 b3 t).toList).cell? ⟨p.1,0,none⟩=some (.int .i64 p.2):=
   fun p hp=>qCe (h.st.cells p hp) x _ (h.ne p hp)
 exact⟨World.rangeAt_setCells_same _ _ _ _ h.there,hp (a1,0) (by simp),hp (b1,1) (by simp),hp (a2,_) (by simp),hp (b2,_) (by simp),hp (a3,_) (by simp),hp (b3,_) (by simp),h.held _,below_setCells x h.lx _ _ _ h.st.bel⟩
set_option maxRecDepth 100000 in
set_option maxHeartbeats 8000000 in
theorem qNh (k:Int) (hk:1≤k∧k≤5) (nu:Bool) (w:World) :
    Calls Tryz.prog 106 #[.agg #[.int .i64 k,.bool nu]] w fun e w'=> ∃v,e=.returned v∧zBc k v w'∧Below w.heap.size w w':=by
 have hmf:∀(fn:Fn) (first cap:Array Value) (w:World),(Instr.makeFunc fn first cap).run Tryz.prog w=.ok (.func fn first cap) w:=fun _ _ _ _=>rfl
 obtain⟨W3,hW3⟩:∃W3,(((w.alloc (.cells #[.int .i64 k,.bool nu] 41)).alloc (.cells #[.nilFunc,.nilFunc,.nilFunc,.nilFunc,.nilFunc] 160)).alloc (.cells #[.func (.func 146) #[] #[]] 155))=W3:=⟨_,rfl⟩;have hsz:W3.heap.size=w.heap.size+3:=by rw[←hW3];simp
 have B3:Below w.heap.size w W3:=by rw[←hW3];exact((br_.alloc le_ _).alloc (by simp) _).alloc (by simp;omega) _
 have hct:W3.cell? ⟨w.heap.size+1+1,0,none⟩=some (.func (.func 146) #[] #[]):=by rw[←hW3,World.cell?_alloc_at _ _ _ _ (by simp)];rfl
 have hk0:W3.heap[w.heap.size]?=some (.cells #[.int .i64 k,.bool nu] 41 (0,0)):=by
  rw[←hW3,Lib.alloc_old _ _ _ (by simp;omega),Lib.alloc_old _ _ _ (by simp)];exact heap_alloc_new w _
 have hk1:W3.heap[w.heap.size+1]?=some (.cells #[.nilFunc,.nilFunc,.nilFunc,.nilFunc,.nilFunc] 160 (0,0)):=by
  rw[←hW3,Lib.alloc_old _ _ _ (by simp)];have:=heap_alloc_new (w.alloc (.cells #[.int .i64 k,.bool nu] 41)) (.cells #[.nilFunc,.nilFunc,.nilFunc,.nilFunc,.nilFunc] 160)
  simpa using this
 have hlt:w.heap.size+1+1<W3.heap.size:=by omega
 have S0:St W3 (w.heap.size+1+1) [] W3.drew:=⟨fun p hp=>absurd hp (by simp),hct,qAa br_ 1⟩;have P1:=hh_ (fun w=>qHu 0 1 w);have P2:=hh_ (fun w=>qHu (-2147483648) 2147483647 w);have P3:=hh_ (fun w=>qHu (-9223372036854775808) 9223372036854775807 w);have HW3:=hh_ hW3;have HSZ:=hh_ hsz;have HK0:=hh_ hk0;have HK1:=hh_ hk1;have HK:=hh_ hk;have HB3:=hh_ B3;have HS0:=hh_ S0;clear hW3 hsz hk0 hk1 hk B3 S0;go_enter Tryz.func106,Tryz.ntmps106;go_wp2_with fail
 rw[HW3.out];refine Code.wp_mono (Q:=fun e a w'=>e=.normal∧∃x a1 b1 a2 b2 a3 b3,(∃t7 t8 t9 t10 t11 t12 t13 t14 t15 t16 t17 t18 t19,a={ tmps:=#[.agg #[.int .i64 k,.bool nu],.pointer (some ⟨w.heap.size,0,none⟩),.pointer (some ⟨w.heap.size+1,0,none⟩),fnV 144,.pointer (some ⟨w.heap.size+1+1,0,none⟩),.pointer (some ⟨x,0,none⟩),fnV 144,t7,t8,t9,t10,t11,t12,t13,t14,t15,t16,t17,t18,t19,undef,undef,undef,undef],defers:=[] })∧Hid (qHk W3 w' x a1 b1 a2 b2 a3 b3 (w.heap.size+1+1))) ?_ ?_
 · rintro e a w' ⟨rfl,x,a1,b1,a2,b2,a3,b3,⟨t7,t8,t9,t10,t11,t12,t13,t14,t15,t16,t17,t18,t19,rfl⟩,HO⟩;have hb:=HO.out.below;have hsz':=HSZ.out;have hk0':w'.heap[w.heap.size]?=some (.cells #[.int .i64 k,.bool nu] 41 (0,0)):=by rw[hb.block _ (by omega)];exact HK0.out
   have hk1':w'.heap[w.heap.size+1]?=some (.cells #[.nilFunc,.nilFunc,.nilFunc,.nilFunc,.nilFunc] 160 (0,0)):=by rw[hb.block _ (by omega)];exact HK1.out
   have ck:w'.cell? ⟨w.heap.size,0,none⟩=some (.int .i64 k):=by rw[Lib.cell_of_heap hk0'];rfl
   have th:=qHc hk1' 5 rfl;have hn:w'.cell? ⟨w.heap.size+1,0,none⟩=some .nilFunc:=by rw[Lib.cell_of_heap hk1'];rfl
   have HN:=hh_ hn;have B:Below w.heap.size w w':=HB3.out.trans (hb.mono (by omega));have hkk:=HK.out;have TH:=hh_ th;have HB:=hh_ B;clear hk0' hk1' th B hb hsz' hn;have hc:k=1∨k=2∨k=3∨k=4∨k=5:=by omega
   clear hkk;rcases hc with rfl|rfl|rfl|rfl|rfl
   · have hp:w'.rangeAt x 5 [qB9 a1 b1,fnV 147,fnV 149,fnV 150,fnV 151]:=qHk.part HO.out 1;have hr:(w'.setCells (w.heap.size+1) 0 [qB9 a1 b1,fnV 147,fnV 149,fnV 150,fnV 151]).rangeAt (w.heap.size+1) 0 [qB9 a1 b1,fnV 147,fnV 149,fnV 150,fnV 151]:=World.rangeAt_setCells_same _ _ _ _ TH.out;have r0:=hr 0 _ rfl;have r1:=hr 1 _ rfl;have r2:=hr 2 _ rfl;have r3:=hr 3 _ rfl;have r4:=hr 4 _ rfl;simp only[Nat.add_zero,Nat.zero_add] at r0 r1 r2 r3 r4;have R0:=hh_ r0;have R1:=hh_ r1;have R2:=hh_ r2;have R3:=hh_ r3;have R4:=hh_ r4;clear hr r0 r1 r2 r3 r4;go_wp2_with (first|(refine wpList_load_mid rfl _ _ rfl _ _ rfl _ _ hp Tryz.underlying160 rfl (by kernel_rfl) ?_)|(refine wpList_store_mid rfl _ _ _ rfl _ 0 (List.toArray _) rfl rfl TH.out (by kernel_rfl) (by kernel_rfl) ?_))
     have r0:=R0.out;have r1:=R1.out;have r2:=R2.out;have r3:=R3.out;have r4:=R4.out;exact bodyPost_ret (v:=.agg #[qB9 a1 b1,fnV 147,fnV 149,fnV 150,fnV 151]) (by simp[results,Tryz.results106,go_sem,r0,r1,r2,r3,r4]) rfl ⟨_,rfl,.inl ⟨rfl,a1,b1,rfl,qCe HO.out.c1 _ _ (qFn HO.out.c1 HN.out (by simp)),qCe HO.out.d1 _ _ (qFn HO.out.d1 HN.out (by simp))⟩,below_setCells _ (by omega) _ _ _ HB.out⟩
   · have hp:w'.rangeAt x 10 [qB9 a2 b2,fnV 152,fnV 153,fnV 154,fnV 155]:=qHk.part HO.out 2;have hr:(w'.setCells (w.heap.size+1) 0 [qB9 a2 b2,fnV 152,fnV 153,fnV 154,fnV 155]).rangeAt (w.heap.size+1) 0 [qB9 a2 b2,fnV 152,fnV 153,fnV 154,fnV 155]:=World.rangeAt_setCells_same _ _ _ _ TH.out;have r0:=hr 0 _ rfl;have r1:=hr 1 _ rfl;have r2:=hr 2 _ rfl;have r3:=hr 3 _ rfl;have r4:=hr 4 _ rfl;simp only[Nat.add_zero,Nat.zero_add] at r0 r1 r2 r3 r4;have R0:=hh_ r0;have R1:=hh_ r1;have R2:=hh_ r2;have R3:=hh_ r3;have R4:=hh_ r4;clear hr r0 r1 r2 r3 r4;go_wp2_with (first|(refine wpList_load_mid rfl _ _ rfl _ _ rfl _ _ hp Tryz.underlying160 rfl (by kernel_rfl) ?_)|(refine wpList_store_mid rfl _ _ _ rfl _ 0 (List.toArray _) rfl rfl TH.out (by kernel_rfl) (by kernel_rfl) ?_))
     have r0:=R0.out;have r1:=R1.out;have r2:=R2.out;have r3:=R3.out;have r4:=R4.out;exact bodyPost_ret (v:=.agg #[qB9 a2 b2,fnV 152,fnV 153,fnV 154,fnV 155]) (by simp[results,Tryz.results106,go_sem,r0,r1,r2,r3,r4]) rfl ⟨_,rfl,.inr (.inl ⟨rfl,a2,b2,rfl,qCe HO.out.c2 _ _ (qFn HO.out.c2 HN.out (by simp)),qCe HO.out.d2 _ _ (qFn HO.out.d2 HN.out (by simp))⟩),below_setCells _ (by omega) _ _ _ HB.out⟩
   · have hp:w'.rangeAt x 15 [qB9 a3 b3,fnV 152,fnV 153,fnV 154,fnV 155]:=qHk.part HO.out 3;have hr:(w'.setCells (w.heap.size+1) 0 [qB9 a3 b3,fnV 152,fnV 153,fnV 154,fnV 155]).rangeAt (w.heap.size+1) 0 [qB9 a3 b3,fnV 152,fnV 153,fnV 154,fnV 155]:=World.rangeAt_setCells_same _ _ _ _ TH.out;have r0:=hr 0 _ rfl;have r1:=hr 1 _ rfl;have r2:=hr 2 _ rfl;have r3:=hr 3 _ rfl;have r4:=hr 4 _ rfl;simp only[Nat.add_zero,Nat.zero_add] at r0 r1 r2 r3 r4;have R0:=hh_ r0;have R1:=hh_ r1;have R2:=hh_ r2;have R3:=hh_ r3;have R4:=hh_ r4;clear hr r0 r1 r2 r3 r4;go_wp2_with (first|(refine wpList_load_mid rfl _ _ rfl _ _ rfl _ _ hp Tryz.underlying160 rfl (by kernel_rfl) ?_)|(refine wpList_store_mid rfl _ _ _ rfl _ 0 (List.toArray _) rfl rfl TH.out (by kernel_rfl) (by kernel_rfl) ?_))
     have r0:=R0.out;have r1:=R1.out;have r2:=R2.out;have r3:=R3.out;have r4:=R4.out;exact bodyPost_ret (v:=.agg #[qB9 a3 b3,fnV 152,fnV 153,fnV 154,fnV 155]) (by simp[results,Tryz.results106,go_sem,r0,r1,r2,r3,r4]) rfl ⟨_,rfl,.inr (.inr (.inl ⟨rfl,a3,b3,rfl,qCe HO.out.c3 _ _ (qFn HO.out.c3 HN.out (by simp)),qCe HO.out.d3 _ _ (qFn HO.out.d3 HN.out (by simp))⟩)),below_setCells _ (by omega) _ _ _ HB.out⟩
   · have hp:w'.rangeAt x 20 [qJk (w.heap.size+1+1),fnV 158,fnV 159,fnV 160,fnV 161]:=qHk.part HO.out 4;have hr:(w'.setCells (w.heap.size+1) 0 [qJk (w.heap.size+1+1),fnV 158,fnV 159,fnV 160,fnV 161]).rangeAt (w.heap.size+1) 0 [qJk (w.heap.size+1+1),fnV 158,fnV 159,fnV 160,fnV 161]:=World.rangeAt_setCells_same _ _ _ _ TH.out;have r0:=hr 0 _ rfl;have r1:=hr 1 _ rfl;have r2:=hr 2 _ rfl;have r3:=hr 3 _ rfl;have r4:=hr 4 _ rfl;simp only[Nat.add_zero,Nat.zero_add] at r0 r1 r2 r3 r4;have R0:=hh_ r0;have R1:=hh_ r1;have R2:=hh_ r2;have R3:=hh_ r3;have R4:=hh_ r4;clear hr r0 r1 r2 r3 r4;go_wp2_with (first|(refine wpList_load_mid rfl _ _ rfl _ _ rfl _ _ hp Tryz.underlying160 rfl (by kernel_rfl) ?_)|(refine wpList_store_mid rfl _ _ _ rfl _ 0 (List.toArray _) rfl rfl TH.out (by kernel_rfl) (by kernel_rfl) ?_))
     have r0:=R0.out;have r1:=R1.out;have r2:=R2.out;have r3:=R3.out;have r4:=R4.out;exact bodyPost_ret (v:=.agg #[qJk (w.heap.size+1+1),fnV 158,fnV 159,fnV 160,fnV 161]) (by simp[results,Tryz.results106,go_sem,r0,r1,r2,r3,r4]) rfl ⟨_,rfl,.inr (.inr (.inr (.inl ⟨rfl,w.heap.size+1+1,rfl,qCe HO.out.ct _ _ (by omega)⟩))),below_setCells _ (by omega) _ _ _ HB.out⟩
   · have hp:w'.rangeAt x 25 [fnV 146,fnV 162,fnV 163,fnV 160,fnV 161]:=qHk.part HO.out 5;have hr:(w'.setCells (w.heap.size+1) 0 [fnV 146,fnV 162,fnV 163,fnV 160,fnV 161]).rangeAt (w.heap.size+1) 0 [fnV 146,fnV 162,fnV 163,fnV 160,fnV 161]:=World.rangeAt_setCells_same _ _ _ _ TH.out;have r0:=hr 0 _ rfl;have r1:=hr 1 _ rfl;have r2:=hr 2 _ rfl;have r3:=hr 3 _ rfl;have r4:=hr 4 _ rfl;simp only[Nat.add_zero,Nat.zero_add] at r0 r1 r2 r3 r4;have R0:=hh_ r0;have R1:=hh_ r1;have R2:=hh_ r2;have R3:=hh_ r3;have R4:=hh_ r4;clear hr r0 r1 r2 r3 r4;go_wp2_with (first|(refine wpList_load_mid rfl _ _ rfl _ _ rfl _ _ hp Tryz.underlying160 rfl (by kernel_rfl) ?_)|(refine wpList_store_mid rfl _ _ _ rfl _ 0 (List.toArray _) rfl rfl TH.out (by kernel_rfl) (by kernel_rfl) ?_))
     have r0:=R0.out;have r1:=R1.out;have r2:=R2.out;have r3:=R3.out;have r4:=R4.out;exact bodyPost_ret (v:=.agg #[fnV 146,fnV 162,fnV 163,fnV 160,fnV 161]) (by simp[results,Tryz.results106,go_sem,r0,r1,r2,r3,r4]) rfl ⟨_,rfl,.inr (.inr (.inr (.inr ⟨rfl,rfl⟩))),below_setCells _ (by omega) _ _ _ HB.out⟩
 · refine wp_region_noPanic ?_;refine wp_region_held_drew (S:=fun w'=>w'.cell? ⟨w.heap.size+1+1,0,none⟩=some (.func (.func 146) #[] #[])) (by kernel_rfl) HS0.out.held (fun hHeld=>?_);have s0:=HS0.out;refine wpAnyH_take (i:=0) (v:=?_) rfl (by kernel_rfl) (by kernel_rfl) (by kernel_rfl) (fun _ _ _ h=>h) (Or.inl ⟨by rfl,?_⟩) (by assumption) ?_
   rotate_left
   · intro w hSw;(try dsimp only at hSw);go_simp;with_reducible rfl
   try simp only[Act.put,List.setIfInBounds_toArray,List.set_cons_zero,List.set_cons_succ]
   refine wpAnyH_take (i:=3) (v:=?_) rfl (by kernel_rfl) (by kernel_rfl) (by kernel_rfl) (fun _ _ _ h=>h) (Or.inl ⟨by rfl,?_⟩) (by assumption) ?_
   rotate_left
   · intro w hSw;(try dsimp only at hSw);go_simp;with_reducible rfl
   try simp only[Act.put,List.setIfInBounds_toArray,List.set_cons_zero,List.set_cons_succ]
   refine wpAnyH_take (i:=6) (v:=?_) rfl (by kernel_rfl) (by kernel_rfl) (by kernel_rfl) (fun _ _ _ h=>h) (Or.inl ⟨by rfl,?_⟩) (by assumption) ?_
   rotate_left
   · intro w hSw;(try dsimp only at hSw);go_simp;with_reducible rfl
   try simp only[Act.put,List.setIfInBounds_toArray,List.set_cons_zero,List.set_cons_succ]
   refine wpAnyH_take (i:=9) (v:=?_) rfl (by kernel_rfl) (by kernel_rfl) (by kernel_rfl) (fun _ _ _ h=>h) (Or.inl ⟨by rfl,?_⟩) (by assumption) ?_
   rotate_left
   · intro w hSw;(try dsimp only at hSw);go_simp;with_reducible rfl
   try simp only[Act.put,List.setIfInBounds_toArray,List.set_cons_zero,List.set_cons_succ]
   refine wpAnyH_take (i:=10) (v:=?_) rfl (by kernel_rfl) (by kernel_rfl) (by kernel_rfl) (fun _ _ _ h=>h) (Or.inl ⟨by rfl,?_⟩) (by assumption) ?_
   rotate_left
   · intro w hSw;(try dsimp only at hSw);go_simp;with_reducible rfl
   try simp only[Act.put,List.setIfInBounds_toArray,List.set_cons_zero,List.set_cons_succ]
   refine wpAnyH_take (i:=11) (v:=?_) rfl (by kernel_rfl) (by kernel_rfl) (by kernel_rfl) (fun _ _ _ h=>h) (Or.inl ⟨by rfl,?_⟩) (by assumption) ?_
   rotate_left
   · intro w hSw;(try dsimp only at hSw);go_simp;with_reducible rfl
   try simp only[Act.put,List.setIfInBounds_toArray,List.set_cons_zero,List.set_cons_succ]
   refine wpAnyH_take (i:=12) (v:=?_) rfl (by kernel_rfl) (by kernel_rfl) (by kernel_rfl) (fun _ _ _ h=>h) (Or.inl ⟨by rfl,?_⟩) (by assumption) ?_
   rotate_left
   · intro w hSw;(try dsimp only at hSw);go_simp;with_reducible rfl
   try simp only[Act.put,List.setIfInBounds_toArray,List.set_cons_zero,List.set_cons_succ]
   refine wpAnyH_ready (rs:=[1,14]) (by kernel_rfl) (by simp) ?_;refine AllReadyH.cons rfl (fun K hK=>?_) ?_
   · go_simp
     (with_reducible refine(P1.out _).mono ?_)
     rintro en w1 ⟨a1,b1,rfl,hm1⟩;have s1:=s0.call hm1;go_wp2_with fail
     refine hK.out _ _ s1.held (fun hHeld=>?_);clear hK K;try simp only[Act.put,List.setIfInBounds_toArray,List.set_cons_zero,List.set_cons_succ]
     refine wpAnyH_take (i:=2) (v:=?_) rfl (by kernel_rfl) (by kernel_rfl) (by kernel_rfl) (fun _ _ _ h=>h) (Or.inl ⟨by rfl,?_⟩) (by assumption) ?_
     rotate_left
     · intro w hSw;(try dsimp only at hSw);go_simp;with_reducible rfl
     try simp only[Act.put,List.setIfInBounds_toArray,List.set_cons_zero,List.set_cons_succ]
     refine wpAnyH_ready (rs:=[4,14]) (by kernel_rfl) (by simp) ?_;refine AllReadyH.cons rfl (fun K hK=>?_) ?_
     · go_simp
       (with_reducible refine(P2.out _).mono ?_)
       rintro en w2 ⟨a2,b2,rfl,hm2⟩;have s2:=s1.call hm2;go_wp2_with fail
       refine hK.out _ _ s2.held (fun hHeld=>?_);clear hK K;try simp only[Act.put,List.setIfInBounds_toArray,List.set_cons_zero,List.set_cons_succ]
       refine wpAnyH_take (i:=5) (v:=?_) rfl (by kernel_rfl) (by kernel_rfl) (by kernel_rfl) (fun _ _ _ h=>h) (Or.inl ⟨by rfl,?_⟩) (by assumption) ?_
       rotate_left
       · intro w hSw;(try dsimp only at hSw);go_simp;with_reducible rfl
       try simp only[Act.put,List.setIfInBounds_toArray,List.set_cons_zero,List.set_cons_succ]
       refine wpAnyH_ready (rs:=[7,14]) (by kernel_rfl) (by simp) ?_;refine AllReadyH.cons rfl (fun K hK=>?_) ?_
       · go_simp
         (with_reducible refine(P3.out _).mono ?_)
         rintro en w3 ⟨a3,b3,rfl,hm3⟩;have s3:=s2.call hm3;go_wp2_with fail
         refine hK.out _ _ s3.held (fun hHeld=>?_);clear hK K;try simp only[Act.put,List.setIfInBounds_toArray,List.set_cons_zero,List.set_cons_succ]
         refine wpAnyH_take (i:=8) (v:=?_) rfl (by kernel_rfl) (by kernel_rfl) (by kernel_rfl) (fun _ _ _ h=>h) (Or.inl ⟨by rfl,?_⟩) (by assumption) ?_
         rotate_left
         · intro w hSw;(try dsimp only at hSw);go_simp;with_reducible rfl
         try simp only[Act.put,List.setIfInBounds_toArray,List.set_cons_zero,List.set_cons_succ]
         refine wpAnyH_take (i:=13) (v:=?_) rfl (by kernel_rfl) (by kernel_rfl) (by kernel_rfl) (fun _ _ _ h=>h) (Or.inl ⟨by rfl,?_⟩) (by assumption) ?_
         rotate_left
         · intro w hSw;(try dsimp only at hSw);go_simp;with_reducible rfl
         try simp only[Act.put,List.setIfInBounds_toArray,List.set_cons_zero,List.set_cons_succ]
         refine wpAnyH_ready (rs:=[14]) (by kernel_rfl) (by simp) ?_;refine AllReadyH.cons rfl (fun K hK=>?_) AllReadyH.nil;go_simp;have s4:=s3.tab tabN 204;refine hK.out _ _ s4.st.held (fun hHeld=>?_);clear hK K;try simp only[Act.put,List.setIfInBounds_toArray,List.set_cons_zero,List.set_cons_succ]
         refine wpAnyH_ready (rs:=[15]) (by kernel_rfl) (by simp) ?_;refine AllReadyH.cons rfl (fun K hK=>?_) AllReadyH.nil;rw[if_pos (by rfl)];refine wp_store_mid _ _ _ rfl _ 0 (List.toArray _) rfl rfl s4.there (by kernel_rfl) (by kernel_rfl) ?_;refine hK.out _ _ (s4.held _) (fun hHeld=>?_);try simp only[Act.put,List.setIfInBounds_toArray,List.set_cons_zero,List.set_cons_succ]
         refine wpAnyH_done (by kernel_rfl) ?_ _;refine NoPanic.normal ?_;exact⟨rfl,_,a1,b1,a2,b2,a3,b3,⟨_,_,_,_,_,_,_,_,_,_,_,_,_,rfl⟩,hh_ s4.done⟩
       refine AllReadyH.cons rfl (fun K hK=>?_) AllReadyH.nil;go_simp;have s3:=s2.tab tabN 204;refine hK.out _ _ s3.st.held (fun hHeld=>?_);clear hK K;try simp only[Act.put,List.setIfInBounds_toArray,List.set_cons_zero,List.set_cons_succ]
       refine wpAnyH_ready (rs:=[7]) (by kernel_rfl) (by simp) ?_;refine AllReadyH.cons rfl (fun K hK=>?_) AllReadyH.nil;go_simp
       (with_reducible refine(P3.out _).mono ?_)
       rintro en w3 ⟨a3,b3,rfl,hm3⟩;have s4:=s3.call hm3;go_wp2_with fail
       refine hK.out _ _ s4.st.held (fun hHeld=>?_);clear hK K;try simp only[Act.put,List.setIfInBounds_toArray,List.set_cons_zero,List.set_cons_succ]
       refine wpAnyH_take (i:=8) (v:=?_) rfl (by kernel_rfl) (by kernel_rfl) (by kernel_rfl) (fun _ _ _ h=>h) (Or.inl ⟨by rfl,?_⟩) (by assumption) ?_
       rotate_left
       · intro w hSw;(try dsimp only at hSw);go_simp;with_reducible rfl
       try simp only[Act.put,List.setIfInBounds_toArray,List.set_cons_zero,List.set_cons_succ]
       refine wpAnyH_take (i:=13) (v:=?_) rfl (by kernel_rfl) (by kernel_rfl) (by kernel_rfl) (fun _ _ _ h=>h) (Or.inl ⟨by rfl,?_⟩) (by assumption) ?_
       rotate_left
       · intro w hSw;(try dsimp only at hSw);go_simp;with_reducible rfl
       try simp only[Act.put,List.setIfInBounds_toArray,List.set_cons_zero,List.set_cons_succ]
       refine wpAnyH_ready (rs:=[15]) (by kernel_rfl) (by simp) ?_;refine AllReadyH.cons rfl (fun K hK=>?_) AllReadyH.nil;rw[if_pos (by rfl)];refine wp_store_mid _ _ _ rfl _ 0 (List.toArray _) rfl rfl s4.there (by kernel_rfl) (by kernel_rfl) ?_;refine hK.out _ _ (s4.held _) (fun hHeld=>?_);try simp only[Act.put,List.setIfInBounds_toArray,List.set_cons_zero,List.set_cons_succ]
       refine wpAnyH_done (by kernel_rfl) ?_ _;refine NoPanic.normal ?_;exact⟨rfl,_,a1,b1,a2,b2,a3,b3,⟨_,_,_,_,_,_,_,_,_,_,_,_,_,rfl⟩,hh_ s4.done⟩
     refine AllReadyH.cons rfl (fun K hK=>?_) AllReadyH.nil;go_simp;have s2:=s1.tab tabN 204;refine hK.out _ _ s2.st.held (fun hHeld=>?_);clear hK K;try simp only[Act.put,List.setIfInBounds_toArray,List.set_cons_zero,List.set_cons_succ]
     refine wpAnyH_ready (rs:=[4]) (by kernel_rfl) (by simp) ?_;refine AllReadyH.cons rfl (fun K hK=>?_) AllReadyH.nil;go_simp
     (with_reducible refine(P2.out _).mono ?_)
     rintro en w2 ⟨a2,b2,rfl,hm2⟩;have s3:=s2.call hm2;go_wp2_with fail
     refine hK.out _ _ s3.st.held (fun hHeld=>?_);clear hK K;try simp only[Act.put,List.setIfInBounds_toArray,List.set_cons_zero,List.set_cons_succ]
     refine wpAnyH_take (i:=5) (v:=?_) rfl (by kernel_rfl) (by kernel_rfl) (by kernel_rfl) (fun _ _ _ h=>h) (Or.inl ⟨by rfl,?_⟩) (by assumption) ?_
     rotate_left
     · intro w hSw;(try dsimp only at hSw);go_simp;with_reducible rfl
     try simp only[Act.put,List.setIfInBounds_toArray,List.set_cons_zero,List.set_cons_succ]
     refine wpAnyH_ready (rs:=[7]) (by kernel_rfl) (by simp) ?_;refine AllReadyH.cons rfl (fun K hK=>?_) AllReadyH.nil;go_simp
     (with_reducible refine(P3.out _).mono ?_)
     rintro en w3 ⟨a3,b3,rfl,hm3⟩;have s4:=s3.call hm3;go_wp2_with fail
     refine hK.out _ _ s4.st.held (fun hHeld=>?_);clear hK K;try simp only[Act.put,List.setIfInBounds_toArray,List.set_cons_zero,List.set_cons_succ]
     refine wpAnyH_take (i:=8) (v:=?_) rfl (by kernel_rfl) (by kernel_rfl) (by kernel_rfl) (fun _ _ _ h=>h) (Or.inl ⟨by rfl,?_⟩) (by assumption) ?_
     rotate_left
     · intro w hSw;(try dsimp only at hSw);go_simp;with_reducible rfl
     try simp only[Act.put,List.setIfInBounds_toArray,List.set_cons_zero,List.set_cons_succ]
     refine wpAnyH_take (i:=13) (v:=?_) rfl (by kernel_rfl) (by kernel_rfl) (by kernel_rfl) (fun _ _ _ h=>h) (Or.inl ⟨by rfl,?_⟩) (by assumption) ?_
     rotate_left
     · intro w hSw;(try dsimp only at hSw);go_simp;with_reducible rfl
     try simp only[Act.put,List.setIfInBounds_toArray,List.set_cons_zero,List.set_cons_succ]
     refine wpAnyH_ready (rs:=[15]) (by kernel_rfl) (by simp) ?_;refine AllReadyH.cons rfl (fun K hK=>?_) AllReadyH.nil;rw[if_pos (by rfl)];refine wp_store_mid _ _ _ rfl _ 0 (List.toArray _) rfl rfl s4.there (by kernel_rfl) (by kernel_rfl) ?_;refine hK.out _ _ (s4.held _) (fun hHeld=>?_);try simp only[Act.put,List.setIfInBounds_toArray,List.set_cons_zero,List.set_cons_succ]
     refine wpAnyH_done (by kernel_rfl) ?_ _;refine NoPanic.normal ?_;exact⟨rfl,_,a1,b1,a2,b2,a3,b3,⟨_,_,_,_,_,_,_,_,_,_,_,_,_,rfl⟩,hh_ s4.done⟩
   refine AllReadyH.cons rfl (fun K hK=>?_) AllReadyH.nil;go_simp;have s1:=s0.tab tabN 204;refine hK.out _ _ s1.st.held (fun hHeld=>?_);clear hK K;try simp only[Act.put,List.setIfInBounds_toArray,List.set_cons_zero,List.set_cons_succ]
   refine wpAnyH_ready (rs:=[1]) (by kernel_rfl) (by simp) ?_;refine AllReadyH.cons rfl (fun K hK=>?_) AllReadyH.nil;go_simp
   (with_reducible refine(P1.out _).mono ?_)
   rintro en w1 ⟨a1,b1,rfl,hm1⟩;have s2:=s1.call hm1;go_wp2_with fail
   refine hK.out _ _ s2.st.held (fun hHeld=>?_);clear hK K;try simp only[Act.put,List.setIfInBounds_toArray,List.set_cons_zero,List.set_cons_succ]
   refine wpAnyH_take (i:=2) (v:=?_) rfl (by kernel_rfl) (by kernel_rfl) (by kernel_rfl) (fun _ _ _ h=>h) (Or.inl ⟨by rfl,?_⟩) (by assumption) ?_
   rotate_left
   · intro w hSw;(try dsimp only at hSw);go_simp;with_reducible rfl
   try simp only[Act.put,List.setIfInBounds_toArray,List.set_cons_zero,List.set_cons_succ]
   refine wpAnyH_ready (rs:=[4]) (by kernel_rfl) (by simp) ?_;refine AllReadyH.cons rfl (fun K hK=>?_) AllReadyH.nil;go_simp
   (with_reducible refine(P2.out _).mono ?_)
   rintro en w2 ⟨a2,b2,rfl,hm2⟩;have s3:=s2.call hm2;go_wp2_with fail
   refine hK.out _ _ s3.st.held (fun hHeld=>?_);clear hK K;try simp only[Act.put,List.setIfInBounds_toArray,List.set_cons_zero,List.set_cons_succ]
   refine wpAnyH_take (i:=5) (v:=?_) rfl (by kernel_rfl) (by kernel_rfl) (by kernel_rfl) (fun _ _ _ h=>h) (Or.inl ⟨by rfl,?_⟩) (by assumption) ?_
   rotate_left
   · intro w hSw;(try dsimp only at hSw);go_simp;with_reducible rfl
   try simp only[Act.put,List.setIfInBounds_toArray,List.set_cons_zero,List.set_cons_succ]
   refine wpAnyH_ready (rs:=[7]) (by kernel_rfl) (by simp) ?_;refine AllReadyH.cons rfl (fun K hK=>?_) AllReadyH.nil;go_simp
   (with_reducible refine(P3.out _).mono ?_)
   rintro en w3 ⟨a3,b3,rfl,hm3⟩;have s4:=s3.call hm3;go_wp2_with fail
   refine hK.out _ _ s4.st.held (fun hHeld=>?_);clear hK K;try simp only[Act.put,List.setIfInBounds_toArray,List.set_cons_zero,List.set_cons_succ]
   refine wpAnyH_take (i:=8) (v:=?_) rfl (by kernel_rfl) (by kernel_rfl) (by kernel_rfl) (fun _ _ _ h=>h) (Or.inl ⟨by rfl,?_⟩) (by assumption) ?_
   rotate_left
   · intro w hSw;(try dsimp only at hSw);go_simp;with_reducible rfl
   try simp only[Act.put,List.setIfInBounds_toArray,List.set_cons_zero,List.set_cons_succ]
   refine wpAnyH_take (i:=13) (v:=?_) rfl (by kernel_rfl) (by kernel_rfl) (by kernel_rfl) (fun _ _ _ h=>h) (Or.inl ⟨by rfl,?_⟩) (by assumption) ?_
   rotate_left
   · intro w hSw;(try dsimp only at hSw);go_simp;with_reducible rfl
   try simp only[Act.put,List.setIfInBounds_toArray,List.set_cons_zero,List.set_cons_succ]
   refine wpAnyH_ready (rs:=[15]) (by kernel_rfl) (by simp) ?_;refine AllReadyH.cons rfl (fun K hK=>?_) AllReadyH.nil;rw[if_pos (by rfl)];refine wp_store_mid _ _ _ rfl _ 0 (List.toArray _) rfl rfl s4.there (by kernel_rfl) (by kernel_rfl) ?_;refine hK.out _ _ (s4.held _) (fun hHeld=>?_);try simp only[Act.put,List.setIfInBounds_toArray,List.set_cons_zero,List.set_cons_succ]
   refine wpAnyH_done (by kernel_rfl) ?_ _;refine NoPanic.normal ?_;exact⟨rfl,_,a1,b1,a2,b2,a3,b3,⟨_,_,_,_,_,_,_,_,_,_,_,_,_,rfl⟩,hh_ s4.done⟩
end Go.Proofs.YtainiaighnjpfaaGreatDoor
