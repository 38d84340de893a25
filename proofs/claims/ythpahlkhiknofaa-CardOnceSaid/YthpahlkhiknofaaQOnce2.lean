/- Several texts, joined. -/
import Derived.Maps.Own
import Derived.Maps.OwnOps
import Derived.Maps.OwnSet
import Derived.DeepKeys4
import Derived.Lib.SliceRun
import Derived.Test.YthpahlkhiknofaaJa
import Derived.Test.YthpahlkhiknofaaJe
import Derived.Test.YthpahlkhiknofaaQOnce1
set_option linter.unusedVariables false
set_option linter.unusedSimpArgs false
namespace Go.Proofs.Ythpahlkhiknofaa.H
open Go Go.RowKit Go.Shelf Go.Proofs.Ythpahlkhiknofaa.G Go.Proofs.Ythpahlkhiknofaa.P Go.Proofs.YthpahlkhiknofaaW.PrintWords Go.Proofs.YthpahlkhiknofaaW.PrintLast Go.Proofs.YthpahlkhiknofaaW.PrintMore
def vlS (xs:List Int) (n p:Nat):Int:=valS xs (p:Int) n (wrap64 (-rd xs (n:Int)))
def lowB (xs:List Int) (n:Nat) (s:ByteArray) (p:Nat):Bool:=(bt s (p:Int) == 49) && decide (vlS xs n p ≤ 0)
def highB (xs:List Int) (n:Nat) (s:ByteArray) (p:Nat):Bool:=(bt s (p:Int) == 48) && decide (vlS xs n p ≥ 0)
def wrL (xs:List Int) (n:Nat) (s:ByteArray):Nat → Nat → Int × Int
 | 0,_=>(-1,0)
 | d + 1,p=>if lowB xs n s p = true then ((p:Int),1) else if highB xs n s p = true then ((p:Int),-1) else wrL xs n s d (p + 1)
set_option maxHeartbeats 4000000 in
set_option maxRecDepth 100000 in
theorem wrong110 (xs:List Int) (hx:xs.length = 6) (n:Nat) (hn:n ≤ 5) (s:ByteArray) (hsz:s.size ≤ 1000) (w:World) :
  Calls Try.prog 110 #[.agg #[.int .i64 (n:Int),.string s],stV xs] w fun e w'=>e = .returned (.tuple #[.int .i64 (wrL xs n s s.size 0).1,.int .i64 (wrL xs n s s.size 0).2]) ∧ Below w.heap.size w w':=by
 obtain ⟨x0,x1,x2,x3,x4,x5,rfl⟩:=six xs hx
 go_enter Try.func110,Try.ntmps110
 unfold stV
 go_wp2_with fail
 go_loopg [11] s.size (fun k s11 W=>∃ p:Nat,s11 = .int .i64 (p:Int) ∧ p ≤ s.size ∧ s.size ≤ k + p ∧ Below w.heap.size w W ∧ W.heap[w.heap.size]? = some (.cells #[.int .i64 (n:Int),.string s] 81 (0,0)) ∧ W.heap[w.heap.size + 1]? = some (rowO [x0,x1,x2,x3,x4,x5]) ∧ wrL [x0,x1,x2,x3,x4,x5] n s s.size 0 = wrL [x0,x1,x2,x3,x4,x5] n s (s.size - p) p)
 case atStart =>
  have h1:=World.alloc_heap_new w (.cells #[.int .i64 (n:Int),.string s] 81 (0,0))
  have h2:=World.alloc_heap_new (w.alloc (.cells #[.int .i64 (n:Int),.string s] 81 (0,0))) (rowO [x0,x1,x2,x3,x4,x5])
  rw [World.size_alloc] at h2
  exact ⟨0,rfl,by omega,by omega,(((Below.refl _ _).alloc (Nat.le_refl _) _).alloc (by simp) _),(((Below.refl _ _).alloc (Nat.le_refl _) _).block w.heap.size (by rw [World.size_alloc];exact Nat.lt_succ_self _)).trans h1,h2,rfl⟩
 case round =>
  obtain ⟨p,rfl,hp,hk,hB,h2,h3,hv⟩:=hrel
  have HB:=Lib.hid hB
  have H2:=Lib.hid h2
  have H3:=Lib.hid h3
  have HV:=Lib.hid hv
  clear hB h2 h3 hv
  by_cases hps:p < s.size
  case neg =>
   have:p = s.size:=by omega
   subst this
   go_wp2_with fail
   refine bodyPost_ret (v:=.tuple #[.int .i64 (-1),.int .i64 0]) (results_tmp2 (t:=4) (u:=5) rfl _ _ _) rfl ⟨?_,HB.out⟩
   rw [HV.out,Nat.sub_self];rfl
  have hca:=cell_of_row _ w.heap.size 0 _ _ _ H2.out
  have hcb:=cell_of_row _ w.heap.size 1 _ _ _ H2.out
  obtain ⟨q0,q1,q2,q3,q4,q5⟩:=cells6 H3.out
  have hlt2:=blk_lt H2.out
  go_wp2_with fail
  refine (value62 x0 x1 x2 x3 x4 x5 n hn (p:Int) _).mono ?_
  rintro e w5 ⟨rfl,hb5⟩
  have h25:=(hb5.block _ hlt2).trans H2.out
  have h35:=(hb5.block _ (blk_lt H3.out)).trans H3.out
  have HB5:=Lib.hid (HB.out.trans (hb5.mono HB.out.size))
  have H25:=Lib.hid h25
  have H35:=Lib.hid h35
  have hcb5:=cell_of_row _ w.heap.size 1 _ _ _ h25
  clear hb5 h25 h35 hca hcb q0 q1 q2 q3 q4 q5
  obtain ⟨v,hve⟩:∃ v,vlS [x0,x1,x2,x3,x4,x5] n p = v:=⟨_,rfl⟩
  rw [show valS [x0,x1,x2,x3,x4,x5] (p:Int) n (wrap64 (-rd [x0,x1,x2,x3,x4,x5] (n:Int))) = v from hve]
  have HVE:=Lib.hid hve
  clear hve
  have hbt:=bt_at s (p:Int)
  have hw1:=wrap_succ (i:=p) (by omega)
  have hstep:wrL [x0,x1,x2,x3,x4,x5] n s (s.size - p) p = if lowB [x0,x1,x2,x3,x4,x5] n s p = true then ((p:Int),1) else if highB [x0,x1,x2,x3,x4,x5] n s p = true then ((p:Int),-1) else wrL [x0,x1,x2,x3,x4,x5] n s (s.size - (p + 1)) (p + 1):=by
   rw [show s.size - p = (s.size - (p + 1)) + 1 by omega];rfl
  unfold lowB highB at hstep
  rw [HVE.out] at hstep
  obtain ⟨a,ha⟩:∃ a,(bt s (p:Int) == 49) = a:=⟨_,rfl⟩
  obtain ⟨b,hb⟩:∃ b,(bt s (p:Int) == 48) = b:=⟨_,rfl⟩
  obtain ⟨c,hc⟩:∃ c,decide (v ≤ 0) = c:=⟨_,rfl⟩
  obtain ⟨d,hd⟩:∃ d,decide (v ≥ 0) = d:=⟨_,rfl⟩
  rw [ha,hb,hc,hd] at hstep
  have HST:=Lib.hid hstep
  rw [bt_get hps] at ha hb
  clear hstep
  cases a <;> cases b <;> cases c <;> cases d
  all_goals
   go_wp2_with fail
   first
   | (refine bodyPost_ret (v:=.tuple #[.int .i64 (p:Int),.int .i64 1]) (results_tmp2 (t:=4) (u:=5) rfl _ _ _) rfl ⟨?_,HB5.out⟩;(rw [HV.out,HST.out]);rfl)
   | (refine bodyPost_ret (v:=.tuple #[.int .i64 (p:Int),.int .i64 (-1)]) (results_tmp2 (t:=4) (u:=5) rfl _ _ _) rfl ⟨?_,HB5.out⟩;(rw [HV.out,HST.out]);rfl)
   | (go_roundg (s.size - (p + 1));(case measure=>(clear hw1;omega));(case rel=>exact ⟨p + 1,by simp [hw1],by clear hw1;omega,by clear hw1;omega,HB5.out,H25.out,H35.out,by rw [HV.out,HST.out];rfl⟩))
end Go.Proofs.Ythpahlkhiknofaa.H
namespace Go.Proofs.Ythpahlkhiknofaa.H
open Go Go.RowKit Go.Shelf Go.Maps Go.Proofs.Ythpahlkhiknofaa.G Go.Proofs.Ythpahlkhiknofaa.P Go.Proofs.YthpahlkhiknofaaW.PrintWords
theorem laidOutP:laidOutB Try.prog = true:=by kernel_rfl
theorem law88:Keyed Try.prog 88:=Keyed.of_law (deep_law_laid laidOutP (m:=Try.prog.types.size) (by decide +kernel) (by decide +kernel) (by kernel_rfl) (by rw [Try.underlying88]))
theorem key_inj {P:Program} {k:TypeId} (K:Keyed P k) {a b:Value} {l:Lit} (h1:keyOf P k a = some l) (h2:keyOf P k b = some l):a = b:=K.inj h1 h2
theorem key_key {P:Program} {k:TypeId} (K:Keyed P k) {a:Value} {l:Lit} (h1:keyOf P k a = some l):WideAt.IsKeyLit l:=K.key h1
def wf6 (xs:List Int):Prop:=∀ x ∈ xs,(Lit.int .i64 x).wf = true
theorem key88 {xs:List Int} (hx:xs.length = 6) (hw:wf6 xs):∃ l,keyOf Try.prog 88 (stV xs) = some l:=by
  obtain ⟨a,b,c,d,e,f,rfl⟩:=six xs hx
  have ha:=hw a (by simp)
  have hb:=hw b (by simp)
  have hc:=hw c (by simp)
  have hd:=hw d (by simp)
  have he:=hw e (by simp)
  have hf:=hw f (by simp)
  have hk:Try.prog.keyType 88 = true:=by kernel_rfl
  have hfm:(stV [a,b,c,d,e,f]).formed Try.prog 88 = true:=by kernel_rfl
  have hn:Try.prog.types.size + 1 = 177 + 1:=by decide +kernel
  have h6:Try.prog.cellsOf 88 = 6:=by kernel_rfl
  have h1:Try.prog.cellsOf 3 = 1:=by kernel_rfl
  have one:∀ y:Int,(Lit.int .i64 y).wf = true → Try.prog.keyLits 177 3 [.int .i64 y] = some [.int .i64 y]:=fun y hy=>by
    show Try.prog.keyLits (176 + 1) 3 _ = _
    unfold Program.keyLits
    rw [Try.underlying3]
    simp [hy]
  have hl:Try.prog.keyLits (Try.prog.types.size + 1) 88 (stV [a,b,c,d,e,f]).cells.toList = some [.int .i64 a,.int .i64 b,.int .i64 c,.int .i64 d,.int .i64 e,.int .i64 f]:=by
    rw [hn]
    unfold Program.keyLits
    rw [Try.underlying88]
    simp only [h6,h1]
    show (if _ = 6 then _ else _) = _
    rw [if_pos (by rfl)]
    simp [stV,Value.cells,List.range,List.range.loop,one,ha,hb,hc,hd,he,hf]
  refine ⟨.string (keyBytes [.int .i64 a,.int .i64 b,.int .i64 c,.int .i64 d,.int .i64 e,.int .i64 f]),?_⟩
  unfold keyOf
  rw [Try.underlying88]
  simp only [hk,hfm,Bool.and_self,if_true,hl,Option.map_some]
noncomputable def kS (xs:List Int):Lit:=(keyOf Try.prog 88 (stV xs)).getD (.bool true)
theorem kS_eq {xs:List Int} (hx:xs.length = 6) (hw:wf6 xs):keyOf Try.prog 88 (stV xs) = some (kS xs):=by
  obtain ⟨l,h⟩:=key88 hx hw
  unfold kS
  rw [h];rfl
theorem stV_inj {xs ys:List Int} (h:stV xs = stV ys):xs = ys:=by
  unfold stV at h
  injection h with h
  have h2:=congrArg Array.toList h
  simp only at h2
  exact (List.map_inj_right (fun a b e=>by injection e)).1 h2
theorem kS_inj {xs ys:List Int} (hx:xs.length = 6) (hw:wf6 xs) (hy:ys.length = 6) (hv:wf6 ys) (h:kS xs = kS ys):xs = ys:=by
  have e1:=kS_eq hx hw
  have e2:=kS_eq hy hv
  rw [← h] at e2
  obtain ⟨l,hl⟩:∃ l,kS xs = l:=⟨_,rfl⟩
  rw [hl] at e1 e2
  exact stV_inj (key_inj law88 e1 e2)
set_option maxRecDepth 100000 in
theorem kS_lit {xs:List Int} (hx:xs.length = 6) (hw:wf6 xs):WideAt.IsKeyLit (kS xs) :=
  key_key law88 (kS_eq hx hw)
end Go.Proofs.Ythpahlkhiknofaa.H
namespace Go.Proofs.Ythpahlkhiknofaa.H
open Go Go.RowKit Go.Shelf Go.Maps Go.Proofs.Ythpahlkhiknofaa.G Go.Proofs.Ythpahlkhiknofaa.P Go.Proofs.YthpahlkhiknofaaW.PrintWords Go.Proofs.YthpahlkhiknofaaW.PrintLast Go.Proofs.YthpahlkhiknofaaW.PrintMore
structure Wg (n:Nat) (s:ByteArray) (st:Nat → List Int) (pt sg:Nat → Int) (K:Nat):Prop where
 len:∀ i,(st i).length = 6
 wf:∀ i,i ≤ K → wf6 (st i)
 z:st 0 = [0,0,0,0,0,0]
 step:∀ i,i < K → wrL (st i) n s s.size 0 = (pt i,sg i) ∧ 0 ≤ pt i ∧ st (i + 1) = chV (st i) (pt i) (sg i) n
 inj:∀ i j,i < j → j < K → st i ≠ st j
def seqI (f:Nat → Int) (i:Nat):List Int:=(List.range i).map f
theorem seqI_succ (f:Nat → Int) (i:Nat):seqI f (i + 1) = seqI f i ++ [f i]:=by unfold seqI;rw [List.range_succ,List.map_append];rfl
theorem seqI_len (f:Nat → Int) (i:Nat):(seqI f i).length = i:=by simp [seqI]
structure MapI (st:Nat → List Int) (D:DataW Unit) (i:Nat):Prop where
 isMap:IsMap D
 at_:∀ j,j < i → Maps.has D (kS (st j)) = true ∧ D.atKey (kS (st j)) (.lit (.int .i64 0)) = .lit (.int .i64 (j:Int))
 no:∀ xs,xs.length = 6 → wf6 xs → (∀ j,j < i → st j ≠ xs) → Maps.has D (kS xs) = false
theorem mapI_zero (st:Nat → List Int):MapI st (.map []) 0:=⟨isMap_empty,fun j hj=>by omega,fun xs _ _ _=>rfl⟩
set_option maxRecDepth 100000 in
theorem mapI_succ {st:Nat → List Int} {D:DataW Unit} {i:Nat} (h:MapI st D i) (hlen:∀ j,(st j).length = 6) (hwf:∀ j,j ≤ i → wf6 (st j)) (hne:∀ j,j < i → st j ≠ st i):MapI st (D.put (kS (st i)) (.lit (.int .i64 (i:Int)))) (i + 1):=by
 have hk:=kS_lit (hlen i) (hwf i (Nat.le_refl i))
 refine ⟨h.isMap.put _ _,fun j hj=>?_,fun xs hx hw hn=>?_⟩
 ·by_cases e:j = i
  ·subst e
   exact ⟨has_put_same h.isMap hk _,atKey_put_same h.isMap hk _ _⟩
  have hji:j < i:=by omega
  have hne2:kS (st j) ≠ kS (st i):=fun h2=>hne j hji (kS_inj (hlen j) (hwf j (by omega)) (hlen i) (hwf i (Nat.le_refl i)) h2)
  obtain ⟨a,b⟩:=h.at_ j hji
  exact ⟨(has_put_other hne2 _).trans a,(atKey_put_other hne2 _ _).trans b⟩
 have hne2:kS xs ≠ kS (st i):=fun h2=>hn i (Nat.lt_succ_self i) (kS_inj hx hw (hlen i) (hwf i (Nat.le_refl i)) h2).symm
 exact (has_put_other hne2 _).trans (h.no xs hx hw fun j hj=>hn j (by omega))
theorem ownsMap_block {w w':World} {P:Program} {k:TypeId} {R:Value → Option (DataW Unit × List MemPlace)} {b n:Nat} {D:DataW Unit} (h:w.ownsMap P k R b n D) (hb:w'.heap[b]? = w.heap[b]?):w'.ownsMap P k R b n D:=by
 obtain ⟨es,clock,h1,r⟩:=h
 exact ⟨es,clock,hb.trans h1,r⟩
theorem zero3 (w:World):(zeroValue 3).run Try.prog w = .ok (.int .i64 0) w:=by kernel_rfl
theorem results_cell_tmp {P:Program} {fn:Func} {p u:Tmp} {ty:TypeId} (h:fn.results = #[.cell p ty,.tmp u]) (tmps:Array Value) (w:World) (g:Nat) (t:TypeId) (cs:Array Value) (fr:Nat × Nat) (d:TypeDesc)
  (hp:tmps.getD p undef = .pointer (some ⟨g,0,none⟩)) (hg:w.heap[g]? = some (.cells cs t fr))
  (hu:P.underlying ty = some d) (hd:(match d with | .struct _ | .array _ _=>true | _=>false) = true) (hi:(P.info? ty).map (·.size) = some cs.size) :
  (results fn tmps).run P w = .ok (.tuple #[.agg cs,tmps.getD u undef]) w:=by
 have hp':tmps[p]?.getD undef = .pointer (some ⟨g,0,none⟩):=by simpa using hp
 simp [results,h,hp',asAddr,run_loadVar_row w g t ty cs fr d hg hu hd hi]
abbrev RI (w:World) (base:Nat) (v:Value) (l:List Int):Prop:=Kd.R (Kd.int .i64) 3 w base (fun _=>True) v l
theorem some_ne {a b:Nat} (h:a ≠ b):some a ≠ some b:=fun e=>h (Option.some.inj e)
theorem map_ne {w:World} {b i base:Nat} {D:DataW Unit} {v:Value} {l:List Int} (h:w.ownsMap Try.prog 88 (plainElem Try.prog 3) b i D) (hr:RI w base v l):some b ≠ v.ownBlock:=by
 intro e
 obtain ⟨es,clock,h1,_⟩:=h
 obtain ⟨_,inner,ho,_⟩:=hr
 obtain ⟨cells,h2⟩:=own_typed ho b e.symm
 rw [h1] at h2
 cases h2
theorem RI_own {w:World} {base:Nat} {v:Value} {l:List Int} (h:RI w base v l) {k:Nat} (hk:v.ownBlock = some k):base ≤ k ∧ k < w.heap.size:=by
 obtain ⟨_,inner,ho,_⟩:=h
 exact ⟨own_base ho k hk,own_lt ho k hk⟩
theorem RI_step {w w':World} {base:Nat} {v:Value} {l:List Int} (h:RI w base v l) (hm:∀ k,base ≤ k → k < w.heap.size → w'.heap[k]? = w.heap[k]?):RI w' base v l :=
 Kd.R_mono (Kd.R_step (Kd.R_bound h) (fun k ho hlt=>hm k ho.2.1 hlt)) (fun _ _=>trivial)
theorem RI_set {w:World} {base g o:Nat} {v:Value} {l:List Int} (h:RI w base v l) (hg:g < base) (u:Value):RI (w.setCell ⟨g,o,none⟩ u) base v l :=
 RI_step h fun k hk _=>Below.heap_setCell _ _ _ _ (by show k ≠ g;omega)
theorem size_set (w:World) (a:Addr) (u:Value):(w.setCell a u).heap.size = w.heap.size:=by simp [World.setCell]
theorem ap_sym {a b:Value} (h:a.ownBlock = none ∨ a.ownBlock ≠ b.ownBlock):∀ k,a.ownBlock = some k → some k ≠ b.ownBlock:=fun k hk=>by
 rcases h with h | h
 ·rw [h] at hk;cases hk
 rw [← hk];exact h
def WRel (n:Nat) (s:ByteArray) (st:Nat → List Int) (pt sg:Nat → Int) (K:Nat) (w:World) (i:Nat) (v6 v7:Value) (W:World):Prop:=∃ (D:DataW Unit),i ≤ K ∧ Below w.heap.size w W ∧ W.heap[w.heap.size]? = some (.cells #[.int .i64 (n:Int),.string s] 81 (0,0)) ∧ W.heap[w.heap.size + 1]? = some (rowO [0,0,0,0,0,0]) ∧ W.heap[w.heap.size + 2]? = some (rowO (st i)) ∧ W.ownsMap Try.prog 88 (plainElem Try.prog 3) (w.heap.size + 3) i D ∧ MapI st D i ∧ RI W (w.heap.size + 4) v6 (seqI pt i) ∧ RI W (w.heap.size + 4) v7 (seqI sg i) ∧ (v6.ownBlock = none ∨ v6.ownBlock ≠ v7.ownBlock) ∧ w.heap.size + 4 ≤ W.heap.size
theorem wrel_start {n:Nat} {s:ByteArray} {st:Nat → List Int} {pt sg:Nat → Int} {K:Nat} (hz:st 0 = [0,0,0,0,0,0]) (w:World):∃ i:Nat,K ≤ K + i ∧ WRel n s st pt sg K w i (.slice none 0 0) (.slice none 0 0) ((((w.alloc (.cells #[.int .i64 (n:Int),.string s] 81 (0,0))).alloc (rowO [0,0,0,0,0,0])).alloc (rowO [0,0,0,0,0,0])).alloc (.map #[] 0)):=by
 obtain ⟨w1,hw1⟩:∃ w1,w.alloc (.cells #[.int .i64 (n:Int),.string s] 81 (0,0)) = w1:=⟨_,rfl⟩
 obtain ⟨w2,hw2⟩:∃ w2,w1.alloc (rowO [0,0,0,0,0,0]) = w2:=⟨_,rfl⟩
 obtain ⟨w3,hw3⟩:∃ w3,w2.alloc (rowO [0,0,0,0,0,0]) = w3:=⟨_,rfl⟩
 have s1:w1.heap.size = w.heap.size + 1:=by rw [← hw1,World.size_alloc]
 have s2:w2.heap.size = w.heap.size + 2:=by rw [← hw2,World.size_alloc,s1]
 have s3:w3.heap.size = w.heap.size + 3:=by rw [← hw3,World.size_alloc,s2]
 have a1:=World.alloc_heap_new w (.cells #[.int .i64 (n:Int),.string s] 81 (0,0))
 have a2:=World.alloc_heap_new w1 (rowO [0,0,0,0,0,0])
 have a3:=World.alloc_heap_new w2 (rowO [0,0,0,0,0,0])
 rw [hw1] at a1
 rw [hw2,s1] at a2
 rw [hw3,s2] at a3
 have b1:Below w.heap.size w w1:=by rw [← hw1];exact (Below.refl _ _).alloc (Nat.le_refl _) _
 have b2:Below w1.heap.size w1 w2:=by rw [← hw2];exact (Below.refl _ _).alloc (Nat.le_refl _) _
 have b3:Below w2.heap.size w2 w3:=by rw [← hw3];exact (Below.refl _ _).alloc (Nat.le_refl _) _
 have b4:Below w3.heap.size w3 (w3.alloc (.map #[] 0)):=(Below.refl _ _).alloc (Nat.le_refl _) _
 rw [hw1,hw2,hw3]
 refine ⟨0,by omega,.map [],by omega,b1.trans ((b2.trans ((b3.trans (b4.mono (by omega))).mono (by omega))).mono (by omega)),?_,?_,?_,?_,mapI_zero st,Kd.R_nil _ _ _ _ _,Kd.R_nil _ _ _ _ _,.inl rfl,by rw [World.size_alloc,s3];omega⟩
 ·exact ((b2.trans ((b3.trans (b4.mono (by omega))).mono (by omega))).block _ (by omega)).trans a1
 ·exact ((b3.trans (b4.mono (by omega))).block _ (by omega)).trans a2
 ·rw [hz];exact (b4.block _ (by omega)).trans a3
 rw [← s3];exact World.ownsMap_made _ _ _ _
set_option maxHeartbeats 8000000 in
set_option maxRecDepth 100000 in
theorem weigh79 (n:Nat) (hn:n ≤ 5) (s:ByteArray) (hsz:s.size ≤ 1000) (st:Nat → List Int) (pt sg:Nat → Int) (K:Nat) (hK:K ≤ 1000000000) (hW:Wg n s st pt sg K) (hend:wrL (st K) n s s.size 0 = (-1,0)) (hnew:∀ j,j < K → st j ≠ st K) (w:World) :
  Calls Try.prog 79 #[.agg #[.int .i64 (n:Int),.string s]] w fun e w'=>e = .returned (.tuple #[stV (st K),.slice none 0 0]) ∧ Below w.heap.size w w':=by
 have hmm:=@run_makeMap Try.prog
 have hW0:=hW.z
 have HW:=Lib.hid hW
 have HE:=Lib.hid hend
 have HN:=Lib.hid hnew
 clear hW hend hnew
 go_enter Try.func79,Try.ntmps79
 go_wp2_with fail
 go_loopg [6,7] K (fun k v6 v7 W=>∃ i:Nat,K ≤ k + i ∧ WRel n s st pt sg K w i v6 v7 W)
 case atStart =>
  exact wrel_start hW0 w
 case round =>
  obtain ⟨i,hk,D,hi,hB,h1,h2,h4,hown,hmap,hr6,hr7,hap,hge⟩:=hrel
  obtain ⟨A6,c6,e6⟩:=Kd.R_slice hr6
  rw [seqI_len] at e6
  subst e6
  obtain ⟨x0,x1,x2,x3,x4,x5,hx⟩:=six (st i) (HW.out.len i)
  rw [hx] at h4
  have HB:=Lib.hid hB
  have H1:=Lib.hid h1
  have H2:=Lib.hid h2
  have H4:=Lib.hid h4
  have HM:=Lib.hid hmap
  have HR6:=Lib.hid hr6
  have HR7:=Lib.hid hr7
  have HAP:=Lib.hid hap
  have HX:=Lib.hid hx
  clear hB h1 h2 h4 hmap hr6 hr7 hap hx
  have hkey:keyOf Try.prog 88 (.agg #[.int .i64 x0,.int .i64 x1,.int .i64 x2,.int .i64 x3,.int .i64 x4,.int .i64 x5]) = some (kS (st i)):=by
   have:=kS_eq (HW.out.len i) (HW.out.wf i hi)
   rw [HX.out] at this ⊢
   exact this
  have hhas:Maps.has D (kS (st i)) = false:=HM.out.no _ (HW.out.len i) (HW.out.wf i hi) fun j hj=>by
   by_cases e:i = K
   ·subst e;exact HN.out j hj
   exact HW.out.inj j i hj (by omega)
  obtain ⟨q0,q1,q2,q3,q4,q5⟩:=cells6 H4.out
  by_cases hiK:i < K
  case neg =>
   obtain rfl:i = K:=by omega
   go_wp2_with (first
    | (at_lookup;refine wpList_lookup_own_ok_int _ rfl _ _ 129 rfl 88 3 .i64 law88 Try.underlying129 Try.underlying3 (zero3 _) (w.heap.size + 3) i D rfl hown _ _ rfl hkey ?_;intro c hat hwc;rw [hhas])
    | (at_mapUpdate;refine wpList_mapUpdate_own _ rfl _ _ _ 129 rfl 88 3 law88 Try.underlying129 _ (w.heap.size + 3) i D rfl hown (by unfold maxLen;omega) _ _ _ rfl rfl hkey _ [] (plainElem_int Try.underlying3 (WalkArith.wf_i64 (by omega))) ?_;intro w1 hown1 hgrow1;have g4:=(hgrow1.block (w.heap.size + 2) (by omega) (some_ne (by omega))).trans H4.out;obtain ⟨q0,q1,q2,q3,q4,q5⟩:=cells6 g4;have g1:=(hgrow1.block w.heap.size (by omega) (some_ne (by omega))).trans H1.out;have hca:=cell_of_row _ w.heap.size 0 _ _ _ g1;have hcb:=cell_of_row _ w.heap.size 1 _ _ _ g1))
   have hs1:w.heap.size + 4 ≤ w1.heap.size:=Nat.le_trans hge hgrow1.size
   have g2:=(hgrow1.block (w.heap.size + 1) (by omega) (some_ne (by omega))).trans H2.out
   have hB1:Below w.heap.size w w1:=HB.out.grown hgrow1 HB.out.size (fun k e=>by injection e;omega)
   have HC:=wrong110 [x0,x1,x2,x3,x4,x5] rfl n hn s hsz w1
   have hwr:=HE.out
   rw [HX.out] at hwr
   rw [hwr] at HC
   refine HC.mono ?_
   rintro e w2 ⟨rfl,hb2⟩
   have hlt:decide ((-1:Int) < 0) = true:=by decide
   have g22:=(hb2.block _ (blk_lt g2)).trans g2
   have g42:=(hb2.block _ (blk_lt g4)).trans g4
   obtain ⟨y0,y1,y2,y3,y4,y5⟩:=cells6 g42
   obtain ⟨r0,r1,r2,r3,r4,r5⟩:=cells6 g22
   obtain ⟨f0,f1,f2,f3,f4,f5⟩:=frozen6 g22
   have e6:=blk_set (blk_set (blk_set (blk_set (blk_set (blk_set g22 0 (.int .i64 x0)) 1 (.int .i64 x1)) 2 (.int .i64 x2)) 3 (.int .i64 x3)) 4 (.int .i64 x4)) 5 (.int .i64 x5)
   have HE6:=Lib.hid e6
   have HB2:=Lib.hid (hB1.trans (hb2.mono hB1.size))
   clear HC hwr hb2 g22 g42 hB1 hown1 g1 g2 g4 hca hcb q0 q1 q2 q3 q4 q5 hown hat hhas hkey hgrow1 hs1 e6
   go_wp2_with fail
   refine bodyPost_ret (v:=.tuple #[.agg #[.int .i64 x0,.int .i64 x1,.int .i64 x2,.int .i64 x3,.int .i64 x4,.int .i64 x5],.slice none 0 0]) (results_cell_tmp (p:=2) (u:=3) (ty:=88) rfl _ _ (w.heap.size + 1) _ _ _ _ rfl HE6.out Try.underlying88 rfl (by kernel_rfl)) rfl ⟨?_,?_⟩
   ·rw [HX.out];rfl
   have hg:w.heap.size ≤ w.heap.size + 1:=by omega
   exact (((((HB2.out.setCell hg _).setCell hg _).setCell hg _).setCell hg _).setCell hg _).setCell hg _
  go_wp2_with (first
   | (at_lookup;refine wpList_lookup_own_ok_int _ rfl _ _ 129 rfl 88 3 .i64 law88 Try.underlying129 Try.underlying3 (zero3 _) (w.heap.size + 3) i D rfl hown _ _ rfl hkey ?_;intro c hat hwc;rw [hhas])
   | (at_mapUpdate;refine wpList_mapUpdate_own _ rfl _ _ _ 129 rfl 88 3 law88 Try.underlying129 _ (w.heap.size + 3) i D rfl hown (by unfold maxLen;omega) _ _ _ rfl rfl hkey _ [] (plainElem_int Try.underlying3 (WalkArith.wf_i64 (by omega))) ?_;intro w1 hown1 hgrow1;have g4:=(hgrow1.block (w.heap.size + 2) (by omega) (some_ne (by omega))).trans H4.out;obtain ⟨q0,q1,q2,q3,q4,q5⟩:=cells6 g4;have g1:=(hgrow1.block w.heap.size (by omega) (some_ne (by omega))).trans H1.out;have hca:=cell_of_row _ w.heap.size 0 _ _ _ g1;have hcb:=cell_of_row _ w.heap.size 1 _ _ _ g1))
  have hs1:w.heap.size + 4 ≤ w1.heap.size:=Nat.le_trans hge hgrow1.size
  have g2:=(hgrow1.block (w.heap.size + 1) (by omega) (some_ne (by omega))).trans H2.out
  have hB1:Below w.heap.size w w1:=HB.out.grown hgrow1 HB.out.size (fun k e=>by injection e;omega)
  have hr6:=Kd.R_grown1 HR6.out rfl hgrow1 (map_ne hown HR6.out)
  have hr7:=Kd.R_grown1 HR7.out rfl hgrow1 (map_ne hown HR7.out)
  obtain ⟨hwr,hp0,hst⟩:=HW.out.step i hiK
  rw [HX.out] at hwr hst
  have HC:=wrong110 [x0,x1,x2,x3,x4,x5] rfl n hn s hsz w1
  rw [hwr] at HC
  refine HC.mono ?_
  rintro e w2 ⟨rfl,hb2⟩
  obtain ⟨p,hpe⟩:∃ p,pt i = p:=⟨_,rfl⟩
  obtain ⟨q,hqe⟩:∃ q,sg i = q:=⟨_,rfl⟩
  rw [hpe] at hp0 hst ⊢
  rw [hqe] at hst ⊢
  have hlt:decide (p < 0) = false:=decide_eq_false (by omega)
  have hlt2:¬ p < 0:=by omega
  have hs2:w.heap.size + 4 ≤ w2.heap.size:=Nat.le_trans hs1 hb2.size
  have g12:=(hb2.block _ (blk_lt g1)).trans g1
  have g22:=(hb2.block _ (blk_lt g2)).trans g2
  have g42:=(hb2.block _ (blk_lt g4)).trans g4
  have hca2:=cell_of_row _ w.heap.size 0 _ _ _ g12
  obtain ⟨y0,y1,y2,y3,y4,y5⟩:=cells6 g42
  have G12:=Lib.hid g12
  have G22:=Lib.hid g22
  have G42:=Lib.hid g42
  have HB2:=Lib.hid (hB1.trans (hb2.mono hB1.size))
  have HO2:=Lib.hid (ownsMap_block hown1 (hb2.block (w.heap.size + 3) (by omega)))
  have H62:=Lib.hid (RI_step hr6 fun k _ h=>hb2.block k h)
  have H72:=Lib.hid (RI_step hr7 fun k _ h=>hb2.block k h)
  have HST:=Lib.hid hst
  have HWR:=Lib.hid hwr
  have HP:=Lib.hid hpe
  have HQ:=Lib.hid hqe
  have HM1:=Lib.hid (mapI_succ HM.out HW.out.len (fun j hj=>HW.out.wf j (by omega)) (fun j hj=>HW.out.inj j i hj hiK))
  clear HC hwr hst hpe hqe hb2 g12 g22 g42 hB1 hown1 hr6 hr7 g1 g2 g4 hca hcb q0 q1 q2 q3 q4 q5 hown hat hhas hkey hgrow1 hs1
  go_wp2_with fail
  refine (changed63 [x0,x1,x2,x3,x4,x5] rfl n hn p q _).mono ?_
  rintro e w3 ⟨rfl,hb3⟩
  obtain ⟨z0,z1,z2,z3,z4,z5,hz⟩:=six (chV [x0,x1,x2,x3,x4,x5] p q n) (by rw [chV_len];rfl)
  rw [hz]
  have g43:=(hb3.block _ (blk_lt G42.out)).trans G42.out
  obtain ⟨f0,f1,f2,f3,f4,f5⟩:=frozen6 g43
  obtain ⟨r0,r1,r2,r3,r4,r5⟩:=cells6 g43
  have G13:=Lib.hid ((hb3.block _ (blk_lt G12.out)).trans G12.out)
  have G23:=Lib.hid ((hb3.block _ (blk_lt G22.out)).trans G22.out)
  have G43:=Lib.hid g43
  have HB3:=Lib.hid (HB2.out.trans (hb3.mono HB2.out.size))
  have HO3:=Lib.hid (ownsMap_block HO2.out (hb3.block (w.heap.size + 3) (by omega)))
  have H63:=Lib.hid (RI_step H62.out fun k _ h=>hb3.block k h)
  have H73:=Lib.hid (RI_step H72.out fun k _ h=>hb3.block k h)
  have hs3:w.heap.size + 4 ≤ w3.heap.size:=Nat.le_trans hs2 hb3.size
  have HZ:=Lib.hid hz
  clear hb3 g43 hz y0 y1 y2 y3 y4 y5 hca2 HB2 G12 G22 G42 HO2 H62 H72
  unfold stV
  have e6:=blk_set (blk_set (blk_set (blk_set (blk_set (blk_set G43.out 0 (.int .i64 z0)) 1 (.int .i64 z1)) 2 (.int .i64 z2)) 3 (.int .i64 z3)) 4 (.int .i64 z4)) 5 (.int .i64 z5)
  have HE6:=Lib.hid e6
  clear e6
  go_wp2_with (first
   | ((with_reducible refine gate_builtin (b:=.append) (xs:=#[.tmp 47,.tmp 49]) rfl ?_);at_builtin;obtain ⟨W4,hW4⟩:∃ W4,((((((w3.setCell { block:=w.heap.size + 1 + 1,off:=0 } (.int .i64 z0)).setCell { block:=w.heap.size + 1 + 1,off:=1 } (.int .i64 z1)).setCell { block:=w.heap.size + 1 + 1,off:=2 } (.int .i64 z2)).setCell { block:=w.heap.size + 1 + 1,off:=3 } (.int .i64 z3)).setCell { block:=w.heap.size + 1 + 1,off:=4 } (.int .i64 z4)).setCell { block:=w.heap.size + 1 + 1,off:=5 } (.int .i64 z5)) = W4:=⟨_,rfl⟩;rw [hW4];have hs4:W4.heap.size = w3.heap.size:=(by rw [← hW4];simp only [size_set]);have H64:RI W4 (w.heap.size + 4) (.slice A6 i c6) (seqI pt i):=(by rw [← hW4];exact RI_set (RI_set (RI_set (RI_set (RI_set (RI_set (H63.out) (by omega) _) (by omega) _) (by omega) _) (by omega) _) (by omega) _) (by omega) _);have H74:RI W4 (w.heap.size + 4) u7 (seqI sg i):=(by rw [← hW4];exact RI_set (RI_set (RI_set (RI_set (RI_set (RI_set (H73.out) (by omega) _) (by omega) _) (by omega) _) (by omega) _) (by omega) _) (by omega) _);have HW4:=Lib.hid hW4;have HH64:=Lib.hid H64;have HH74:=Lib.hid H74;clear hW4 H64 H74;(refine Kd.R_append (Kd.int .i64) (w0:=W4) (w.heap.size + 4) rfl (.tmp 47) (.tmp 49) 22 3 (.int .i64 0) 8 rfl Try.underlying22 info3 rfl (by decide) (by omega) (.slice A6 i c6) (seqI pt i) p [.int .i64 p] (fun _=>True) (fun _=>False) rfl (by rw [hs4];first | (go_simp;done) | (go_simp;rfl)) ?aP (fun _ hk=>hk.elim) ?aF ?aO ?aB ?aS ?aL ?_);(case aB=>exact Below.refl _ W4);(case aP=>exact rfl);(case aF=>exact (fun _ _=>trivial));(case aO=>exact HH64.out);(case aS=>rw [hs4];exact hs3);(case aL=>rw [seqI_len];omega);intro v6 w4 ho4 hb4 hg4 hat4)
   | ((with_reducible refine gate_builtin (b:=.append) (xs:=#[.tmp 51,.tmp 53]) rfl ?_);at_builtin;refine Kd.R_append (Kd.int .i64) (w0:=w4) (w.heap.size + 4) rfl (.tmp 51) (.tmp 53) 22 3 (.int .i64 0) 8 rfl Try.underlying22 info3 rfl (by decide) (by omega) u7 (seqI sg i) q [.int .i64 q] (fun _=>True) (fun _=>False) rfl (by first | (go_simp;done) | (go_simp;rfl)) ?aP (fun _ hk=>hk.elim) ?aF ?aO ?aB ?aS ?aL ?_;(case aB=>exact Below.refl _ w4);(case aP=>exact rfl);(case aF=>exact (fun _ _=>trivial));(case aO=>exact Kd.R_grown2 HH74.out rfl hg4 (ap_sym HAP.out));(case aS=>exact Nat.le_trans (hs4 ▸ hs3) hb4.size);(case aL=>rw [seqI_len];omega);intro v7 w5 ho5 hb5 hg5 hat5))
  go_roundg (K - (i + 1))
  case measure=>omega
  case rel =>
   have hne6:∀ k,u7.ownBlock = some k → some k ≠ v6.ownBlock:=fun k hk e=>by
    rcases hat4 with h | ⟨b,h,hle⟩
    ·rw [h] at e
     rcases HAP.out with h2 | h2
     ·rw [h2] at e;cases e
     exact h2 (e.symm.trans hk.symm)
    rw [h] at e
    have:=(RI_own HH74.out hk).2
    injection e with e
    omega
   have h6:=Kd.R_grown2 ho4 rfl hg5 hne6
   have hblk:∀ k,k < w.heap.size + 4 → k ≠ w.heap.size + 2 → w5.heap[k]? = w3.heap[k]?:=fun k hk hne=>by
    rw [hb5.block k hk,hb4.block k hk,← HW4.out]
    have hd:∀ o:Nat,k ≠ ({ block:=w.heap.size + 1 + 1,off:=o }:Addr).block:=fun o=>by show k ≠ w.heap.size + 1 + 1;omega
    rw [Below.heap_setCell _ _ _ _ (hd 5),Below.heap_setCell _ _ _ _ (hd 4),Below.heap_setCell _ _ _ _ (hd 3),Below.heap_setCell _ _ _ _ (hd 2),Below.heap_setCell _ _ _ _ (hd 1),Below.heap_setCell _ _ _ _ (hd 0)]
   have hg2:w.heap.size ≤ w.heap.size + 1 + 1:=by omega
   have hB4:Below w.heap.size w W4:=by
    rw [← HW4.out]
    exact (((((HB3.out.setCell hg2 _).setCell hg2 _).setCell hg2 _).setCell hg2 _).setCell hg2 _).setCell hg2 _
   refine ⟨i + 1,by omega,_,hiK,hB4.trans ((hb4.mono (by omega)).trans (hb5.mono (by omega))),(hblk _ (by omega) (by omega)).trans G13.out,(hblk _ (by omega) (by omega)).trans G23.out,?_,ownsMap_block HO3.out (hblk _ (by omega) (by omega)),HM1.out,?_,?_,?_,?_⟩
   ·rw [hb5.block _ (by omega),hb4.block _ (by omega),← HW4.out,HST.out,HZ.out]
    exact HE6.out
   ·rw [seqI_succ,HP.out];exact h6
   ·rw [seqI_succ,HQ.out];exact ho5
   ·rcases hat5 with h | ⟨b,h,hle⟩
    ·rw [h]
     cases e:v6.ownBlock with
     | none=>exact .inl rfl
     | some k =>
      right
      intro e2
      exact hne6 k e2.symm e.symm
    rw [h]
    cases e:v6.ownBlock with
    | none=>exact .inl rfl
    | some k =>
     right
     intro e2
     have:=(RI_own ho4 e).2
     injection e2 with e2
     omega
   exact Nat.le_trans (Nat.le_trans (hs4 ▸ hs3) hb4.size) hb5.size
end Go.Proofs.Ythpahlkhiknofaa.H
namespace Go.Proofs.Ythpahlkhiknofaa.H
open Go Go.RowKit Go.Shelf Go.Proofs.Ythpahlkhiknofaa.G Go.Proofs.Ythpahlkhiknofaa.P Go.Proofs.YthpahlkhiknofaaW.PrintWords
/-- What the function says of each cube,in each world that has grown from one. -/
def Says (F:Nat) (b:Addr) (w:World) (φ:S96 → Bool):Prop:=∀ W x,Below w.heap.size w W → Calls Try.prog F #[.agg #[.int .i64 x.f0,.int .i64 x.f1],.pointer (some b)] W fun e W'=>e = .returned (.bool (φ x)) ∧ Below W.heap.size W W'
theorem Says.mono {F:Nat} {b:Addr} {w w1:World} {φ:S96 → Bool} (h:Says F b w φ) (hb:Below w.heap.size w w1):Says F b w1 φ:=fun W x hW=>h W x (hb.trans (hW.mono hb.size))
end Go.Proofs.Ythpahlkhiknofaa.H
namespace Go.Proofs.Ythpahlkhiknofaa.G
open Go Go.RowKit Go.Proofs.YthpahlkhiknofaaW.PrintWords Go.Proofs.YthpahlkhiknofaaW.PrintLast Go.Proofs.YthpahlkhiknofaaW.PrintMore
theorem R_empty {α:Type} (d:Kd α) {e:Nat} {w:World} {base g:Nat} (h:w.heap[g]? = some (.cells #[] e (0,0))) (hg:base ≤ g):Kd.R d e w base (fun _=>True) (.slice (some ⟨g,0,none⟩) 0 0) []:=by
 refine ⟨fun _ _=>trivial,[],?_,?_⟩
 ·refine ⟨by simp,.inr ⟨g,0,#[],rfl,hg,h,Nat.le_refl _,Nat.zero_le _,by simp,by simp⟩⟩
 exact Reps.none _ _
end Go.Proofs.Ythpahlkhiknofaa.G
namespace Go.Proofs.Ythpahlkhiknofaa.H
open Go Go.RowKit Go.Shelf Go.Proofs.Ythpahlkhiknofaa.G Go.Proofs.Ythpahlkhiknofaa.P Go.Proofs.YthpahlkhiknofaaW.PrintWords Go.Proofs.YthpahlkhiknofaaW.PrintLast Go.Proofs.YthpahlkhiknofaaW.PrintMore
set_option maxHeartbeats 8000000 in
set_option maxRecDepth 100000 in
theorem clone80 (ad:Addr) (c:Nat) (l:List Int) (w:World) (hl:Kd.C (Kd.int .i64) w (some ad) l.length l) (hlc:l.length ≤ c) (hlen:l.length < 1000000) :
  Calls Try.prog 80 #[.slice (some ad) l.length c] w fun e w'=>∃ v:Value,e = .returned v ∧ Kd.R (Kd.int .i64) 3 w' w.heap.size (fun _=>True) v l ∧ Below w.heap.size w w':=by
 have HL:=Lib.hid hl
 have HLC:=Lib.hid hlc
 have HB:=Lib.hid (Below.refl w.heap.size w)
 have he:=Lib.run_eql_slice_nil (P:=Try.prog) w 22 3 (some ad) l.length c 0 0 Try.underlying22
 go_enter Try.func80,Try.ntmps80
 have hbe:Below w.heap.size w (w.alloc (Obj.cells #[] 3)):=(Below.refl _ _).alloc (Nat.le_refl _) _
 have hh:=World.alloc_heap_new w (Obj.cells #[] 3)
 have HE:=Lib.hid (R_empty (e:=3) (Kd.int .i64) (w:=w.alloc (Obj.cells #[] 3)) (base:=w.heap.size) (g:=w.heap.size) hh (Nat.le_refl _))
 go_wp2_with ((with_reducible refine gate_builtin (b:=.append) (xs:=#[.tmp 5,.tmp 6]) rfl ?_);at_builtin;refine Kd.R_append_rows (Kd.int .i64) (w0:=w) w.heap.size rfl (.tmp 5) (.tmp 6) 22 3 (.int .i64 0) 8 rfl Try.underlying22 info3 rfl (by decide) (by omega) (.slice (some ⟨w.heap.size,0,none⟩) 0 0) ([]:List Int) l _ _ _ (fun _=>True) (fun _=>False) rfl rfl ?aO ?aR (fun _ _ h=>h) (fun _ h=>h.elim) ?aF ?aB ?aS ?aL ?_;(case aO=>exact HE.out);(case aR=>exact Kd.C_alloc HL.out _);(case aF=>exact fun _ _=>trivial);(case aB=>exact hbe);(case aS=>exact hbe.size);(case aL=>simp only [List.length_nil];omega);intro v106 w7 ho hb hg hat;have HO:=Lib.hid ho;have HB7:=Lib.hid hb;clear ho hb hg hat)
 exact bodyPost_ret (v:=v106) (results_tmp (t:=2) rfl _ _ _) rfl ⟨v106,rfl,HO.out,HB7.out⟩
end Go.Proofs.Ythpahlkhiknofaa.H
namespace Go.Proofs.Ythpahlkhiknofaa.H
open Go Go.RowKit Go.Shelf Go.Maps Go.Proofs.Ythpahlkhiknofaa.G Go.Proofs.Ythpahlkhiknofaa.P Go.Proofs.YthpahlkhiknofaaW.PrintWords Go.Proofs.YthpahlkhiknofaaW.PrintLast Go.Proofs.YthpahlkhiknofaaW.PrintMore
attribute [local go_sem] max2_int max_two
def cntL (ps:List Int):Nat → List Int
 | 0=>List.replicate 32 0
 | i + 1=>(cntL ps i).set (rd ps (i:Int)).toNat (rd (cntL ps i) (rd ps (i:Int)) + 1)
theorem cntL_len (ps:List Int):∀ i,(cntL ps i).length = 32
 | 0=>by simp [cntL]
 | i + 1=>by rw [cntL,List.length_set,cntL_len ps i]
theorem cntL_bd (ps:List Int):∀ (i q:Nat),0 ≤ rd (cntL ps i) (q:Int) ∧ rd (cntL ps i) (q:Int) ≤ (i:Int)
 | 0,q=>by
  have:rd (cntL ps 0) (q:Int) = 0:=by
   unfold rd cntL
   rw [List.getD_eq_getElem?_getD,List.getElem?_replicate]
   split <;> rfl
  rw [this];omega
 | i + 1,q=>by
  have h:=cntL_bd ps i
  by_cases hq:q < 32
  case neg =>
   have:rd (cntL ps (i + 1)) (q:Int) = 0:=by
    unfold rd
    rw [List.getD_eq_getElem?_getD,List.getElem?_eq_none (by rw [cntL_len,Int.toNat_natCast];omega)];rfl
   rw [this];omega
  rw [rd_get (by rw [cntL_len];exact hq)]
  simp only [cntL,List.getElem_set]
  split
  ·by_cases h0:0 ≤ rd ps (i:Int)
   ·have:=h (rd ps (i:Int)).toNat
    rw [Int.toNat_of_nonneg h0] at this
    omega
   have:rd (cntL ps i) (rd ps (i:Int)) = rd (cntL ps i) ((0:Nat):Int):=by
    have e0:(rd ps (i:Int)).toNat = 0:=by omega
    show (cntL ps i).getD (rd ps (i:Int)).toNat 0 = _
    rw [e0];rfl
   have h2:=h 0
   omega
  have:=h q
  rw [rd_get (by rw [cntL_len];exact hq)] at this
  omega
theorem cntL_pos (ps:List Int):∀ (i q:Nat),0 < rd (cntL ps i) (q:Int) → ∃ j,j < i ∧ (rd ps (j:Int)).toNat = q
 | 0,q,h=>by have:=cntL_bd ps 0 q;omega
 | i + 1,q,h=>by
  by_cases hq:q < 32
  case neg =>
   have:rd (cntL ps (i + 1)) (q:Int) = 0:=by
    unfold rd
    rw [List.getD_eq_getElem?_getD,List.getElem?_eq_none (by rw [cntL_len,Int.toNat_natCast];omega)];rfl
   omega
  by_cases e:(rd ps (i:Int)).toNat = q
  ·exact ⟨i,by omega,e⟩
  have:rd (cntL ps (i + 1)) (q:Int) = rd (cntL ps i) (q:Int):=by
   rw [rd_get (by rw [cntL_len];exact hq),rd_get (by rw [cntL_len];exact hq)]
   simp only [cntL,List.getElem_set,if_neg e]
  rw [this] at h
  obtain ⟨j,hj,e2⟩:=cntL_pos ps i q h
  exact ⟨j,by omega,e2⟩
def rowA (l:List Int):Obj:=.cells (l.map (Value.int .i64)).toArray 141 (0,0)
theorem rowA_set (l:List Int) (i:Nat) (v:Int):some (Obj.cells (((l.map (Value.int .i64)).toArray).setIfInBounds i (.int .i64 v)) 141 (0,0)) = some (rowA (l.set i v)):=by
 unfold rowA
 rw [List.map_set,List.setIfInBounds_toArray]
theorem law3:Keyed Try.prog 3:=int_keyed Try.underlying3
theorem keyI {a:Int} (h:(Lit.int .i64 a).wf = true):keyOf Try.prog 3 (.int .i64 a) = some (.int .i64 a):=keyOf_int_mk Try.underlying3 h
structure MapS (ps sg:List Int) (D:DataW Unit) (i:Nat):Prop where
 isMap:IsMap D
 at_:∀ q:Nat,(∃ j,j < i ∧ (rd ps (j:Int)).toNat = q) → ∃ j,j < i ∧ (rd ps (j:Int)).toNat = q ∧ D.atKey (.int .i64 (q:Int)) (.lit (.int .i64 0)) = .lit (.int .i64 (rd sg (j:Int)))
theorem mapS_zero (ps sg:List Int):MapS ps sg (.map []) 0:=⟨isMap_empty,fun q ⟨j,hj,_⟩=>by omega⟩
theorem mapS_succ {ps sg:List Int} {D:DataW Unit} {i:Nat} (h:MapS ps sg D i) {p:Nat} (hp:rd ps (i:Int) = (p:Int)):MapS ps sg (D.put (.int .i64 (p:Int)) (.lit (.int .i64 (rd sg (i:Int))))) (i + 1):=by
 have hk:WideAt.IsKeyLit (.int .i64 (p:Int)):=trivial
 refine ⟨h.isMap.put _ _,fun q ⟨j,hj,e⟩=>?_⟩
 by_cases hq:q = p
 ·subst hq
  exact ⟨i,by omega,by rw [hp];rfl,atKey_put_same h.isMap hk _ _⟩
 have hji:j < i:=by
  rcases Nat.lt_or_ge j i with h2 | h2
  ·exact h2
  have:j = i:=by omega
  subst this
  rw [hp] at e
  exact absurd (show q = p by rw [← e];rfl) hq
 obtain ⟨j2,h2,h3,h4⟩:=h.at_ q ⟨j,hji,e⟩
 exact ⟨j2,by omega,h3,(atKey_put_other (fun e2=>hq (by injection e2 with _ e3;omega)) _ _).trans h4⟩
def B1 (ps sg:List Int) (w:World) (i:Nat) (W:World):Prop:=∃ D:DataW Unit,i ≤ ps.length ∧ Below w.heap.size w W ∧ w.heap.size + 2 ≤ W.heap.size ∧ W.heap[w.heap.size]? = some (rowA (cntL ps i)) ∧ W.ownsMap Try.prog 3 (plainElem Try.prog 3) (w.heap.size + 1) i D ∧ MapS ps sg D i
theorem addb (a:Addr) (i:Nat):(a.add i).block = a.block:=by unfold Addr.add;split <;> rfl
theorem rowA_at {l:List Int} {i:Nat} (hi:i < l.length):((l.map (Value.int .i64)).toArray)[i]? = some (.int .i64 (rd l (i:Int))):=by
 rw [List.getElem?_toArray,List.getElem?_map,List.getElem?_eq_getElem hi,rd_get hi];rfl
theorem b1_start (ps sg:List Int) (w:World):B1 ps sg w 0 ((w.alloc (rowA (List.replicate 32 0))).alloc (.map #[] 0)):=by
 obtain ⟨w1,hw1⟩:∃ w1,w.alloc (rowA (List.replicate 32 0)) = w1:=⟨_,rfl⟩
 have s1:w1.heap.size = w.heap.size + 1:=by rw [← hw1,World.size_alloc]
 have a1:=World.alloc_heap_new w (rowA (List.replicate 32 0))
 rw [hw1] at a1 ⊢
 have b1:Below w.heap.size w w1:=by rw [← hw1];exact (Below.refl _ _).alloc (Nat.le_refl _) _
 have b4:Below w1.heap.size w1 (w1.alloc (.map #[] 0)):=(Below.refl _ _).alloc (Nat.le_refl _) _
 refine ⟨.map [],Nat.zero_le _,b1.trans (b4.mono (by omega)),by rw [World.size_alloc,s1];omega,(b4.block _ (by omega)).trans a1,?_,mapS_zero ps sg⟩
 rw [← s1];exact World.ownsMap_made _ _ _ _
def repN (cl:List Int) (g q:Nat):Nat:=(rd cl (q:Int)).toNat / max g 1
def outL (cl:List Int) (g:Nat) (σ:Nat → Bool) (b:Bool) (k:Nat):List Int:=(List.range k).flatMap fun q:Nat=>if σ q = b then List.replicate (repN cl g q) (q:Int) else []
def outJ (cl:List Int) (g:Nat) (σ:Nat → Bool) (b:Bool) (k j:Nat):List Int:=outL cl g σ b k ++ (if σ k = b then List.replicate j (k:Int) else [])
theorem outJ_zero (cl:List Int) (g:Nat) (σ:Nat → Bool) (b:Bool) (k:Nat):outJ cl g σ b k 0 = outL cl g σ b k:=by unfold outJ;split <;> simp
theorem outJ_end (cl:List Int) (g:Nat) (σ:Nat → Bool) (b:Bool) (k:Nat):outJ cl g σ b k (repN cl g k) = outL cl g σ b (k + 1):=by
 unfold outJ outL
 rw [List.range_succ,List.flatMap_append]
 simp
theorem outJ_succ (cl:List Int) (g:Nat) (σ:Nat → Bool) (b:Bool) (k j:Nat):outJ cl g σ b k (j + 1) = outJ cl g σ b k j ++ (if σ k = b then [(k:Int)] else []):=by
 unfold outJ
 by_cases h:σ k = b
 case neg =>
  simp [h]
 rw [if_pos h,if_pos h,if_pos h,List.replicate_succ',List.append_assoc]
def gcN (cl:List Int):Nat → Nat
 | 0=>0
 | j + 1=>Nat.gcd (gcN cl j) (rd cl (j:Int)).toNat
theorem index141 {cl:List Int} (h:cl.length = 32) {j:Nat} (hj:j < 32) (w:World):(Instr.index 141 (.agg (cl.map (Value.int .i64)).toArray) (.int .i64 (j:Int))).run Try.prog w = .ok (.int .i64 (rd cl (j:Int))) w:=by
 have hc:((cl.map (Value.int .i64)).toArray)[j]? = some (.int .i64 (rd cl (j:Int))):=rowA_at (by omega)
 have hc2:cl[j]? = some (rd cl (j:Int)):=by rw [List.getElem?_eq_getElem (by omega),rd_get (by omega)]
 simp [Instr.index,run_underlying Try.underlying141,asIntOf,hj,part,go_sem,Try.sizeOf3,Try.isAgg3,hc2,Result.andThen]
def B3 (w:World) (cl:List Int) (g:Nat) (σ:Nat → Bool) (D:DataW Unit) (m N k j:Nat) (W:World):Prop:=∃ v0 v1:Value,Below w.heap.size w W ∧ W.ownsMap Try.prog 3 (plainElem Try.prog 3) (w.heap.size + 1) m D ∧ W.heap[N]? = some (.cells #[v0,v1] 22 (0,0)) ∧ RI W (N + 1) v0 (outJ cl g σ true k j) ∧ RI W (N + 1) v1 (outJ cl g σ false k j) ∧ (v0.ownBlock = none ∨ v0.ownBlock ≠ v1.ownBlock) ∧ N + 1 ≤ W.heap.size
theorem mapS_sign {ps sg:List Int} {σ:Nat → Bool} (hσ:∀ j:Nat,j < ps.length → decide (0 < rd sg (j:Int)) = σ (rd ps (j:Int)).toNat) {D:DataW Unit} (h:MapS ps sg D ps.length) {q:Nat} (hq:0 < rd (cntL ps ps.length) (q:Int)) {c:Int} (hat:D.atKey (.int .i64 (q:Int)) (.lit (.int .i64 0)) = .lit (.int .i64 c)):decide (0 < c) = σ q:=by
 obtain ⟨j,hj,e,h2⟩:=h.at_ q (cntL_pos ps _ q hq)
 rw [h2] at hat
 injection hat with hat
 injection hat with _ hat
 subst hat
 rw [hσ j hj,e]
theorem b3_put0 {w W w4:World} {cl:List Int} {g:Nat} {σ:Nat → Bool} {D:DataW Unit} {m N k j:Nat} {v0 v1 v:Value} (hN:w.heap.size + 1 < N) (hs:σ k = true) (hB:Below w.heap.size w W) (hown:W.ownsMap Try.prog 3 (plainElem Try.prog 3) (w.heap.size + 1) m D) (hblk:W.heap[N]? = some (.cells #[v0,v1] 22 (0,0))) (h0:RI W (N + 1) v0 (outJ cl g σ true k j)) (h1:RI W (N + 1) v1 (outJ cl g σ false k j)) (hap:v0.ownBlock = none ∨ v0.ownBlock ≠ v1.ownBlock) (hge:N + 1 ≤ W.heap.size)
  (ho:RI w4 (N + 1) v (outJ cl g σ true k j ++ [(k:Int)])) (hb:Below (N + 1) W w4) (hg:W.grownBy w4 v0.ownBlock) (hat:v.ownBlock = v0.ownBlock ∨ ∃ b,v.ownBlock = some b ∧ W.heap.size ≤ b):B3 w cl g σ D m N k (j + 1) (w4.setCell ⟨N,0,none⟩ v):=by
 have hN2:N < N + 1:=Nat.lt_succ_self N
 refine ⟨v,v1,(hB.trans (hb.mono (by omega))).setCell (by show w.heap.size ≤ N;omega) _,ownsMap_block hown ?_,?_,?_,?_,?_,?_⟩
 ·rw [Below.heap_setCell _ _ _ _ (show w.heap.size + 1 ≠ N by omega)]
  exact hb.block _ (by omega)
 ·exact (blk_set ((hb.block N hN2).trans hblk) 0 v).trans rfl
 ·rw [outJ_succ,if_pos hs];exact RI_set ho hN2 _
 ·rw [outJ_succ,if_neg (by rw [hs];decide),List.append_nil]
  exact RI_set (Kd.R_grown2 h1 rfl hg (ap_sym hap)) hN2 _
 ·rcases hat with h | ⟨b,h,hle⟩
  ·rw [h];exact hap
  right
  rw [h]
  intro e
  have:=(RI_own h1 e.symm).2
  omega
 rw [size_set];exact Nat.le_trans hge hb.size
theorem b3_put1 {w W w4:World} {cl:List Int} {g:Nat} {σ:Nat → Bool} {D:DataW Unit} {m N k j:Nat} {v0 v1 v:Value} (hN:w.heap.size + 1 < N) (hs:σ k = false) (hB:Below w.heap.size w W) (hown:W.ownsMap Try.prog 3 (plainElem Try.prog 3) (w.heap.size + 1) m D) (hblk:W.heap[N]? = some (.cells #[v0,v1] 22 (0,0))) (h0:RI W (N + 1) v0 (outJ cl g σ true k j)) (h1:RI W (N + 1) v1 (outJ cl g σ false k j)) (hap:v0.ownBlock = none ∨ v0.ownBlock ≠ v1.ownBlock) (hge:N + 1 ≤ W.heap.size)
  (ho:RI w4 (N + 1) v (outJ cl g σ false k j ++ [(k:Int)])) (hb:Below (N + 1) W w4) (hg:W.grownBy w4 v1.ownBlock) (hat:v.ownBlock = v1.ownBlock ∨ ∃ b,v.ownBlock = some b ∧ W.heap.size ≤ b):B3 w cl g σ D m N k (j + 1) (w4.setCell ⟨N,1,none⟩ v):=by
 have hN2:N < N + 1:=Nat.lt_succ_self N
 refine ⟨v0,v,(hB.trans (hb.mono (by omega))).setCell (by show w.heap.size ≤ N;omega) _,ownsMap_block hown ?_,?_,?_,?_,?_,?_⟩
 ·rw [Below.heap_setCell _ _ _ _ (show w.heap.size + 1 ≠ N by omega)]
  exact hb.block _ (by omega)
 ·exact (blk_set ((hb.block N hN2).trans hblk) 1 v).trans rfl
 ·rw [outJ_succ,if_neg (by rw [hs];decide),List.append_nil]
  refine RI_set (Kd.R_grown2 h0 rfl hg fun k' hk' e=>?_) hN2 _
  rcases hap with h | h
  ·rw [h] at e;cases e
  exact h (e.symm.trans hk'.symm)
 ·rw [outJ_succ,if_pos hs];exact RI_set ho hN2 _
 ·rcases hat with h | ⟨b,h,hle⟩
  ·rw [h];exact hap
  cases e:v0.ownBlock with
  | none=>exact .inl rfl
  | some u =>
   right
   rw [h]
   intro e2
   have:=(RI_own h0 e).2
   injection e2 with e2
   omega
 rw [size_set];exact Nat.le_trans hge hb.size
theorem s_two {W:World} {base N:Nat} {v0 v1:Value} {l0 l1:List Int} (hb:base ≤ N) (hblk:W.heap[N]? = some (.cells #[v0,v1] 22 (0,0))) (h0:RI W (N + 1) v0 l0) (h1:RI W (N + 1) v1 l1) (hap:v0.ownBlock = none ∨ v0.ownBlock ≠ v1.ownBlock):Kd.S (Kd.slice 3 (Kd.int .i64)) 22 W base (fun _=>True) (.slice (some ⟨N,0,none⟩) 2 2) [l0,l1]:=by
 have hown:(Value.slice (some ⟨N,0,none⟩) 2 2).ownBlock = some N:=rfl
 refine ⟨fun k=>if some k = v1.ownBlock then 1 else 0,fun _ _=>trivial,[v0,v1],⟨rfl,.inr ⟨N,2,#[v0,v1],rfl,hb,hblk,Nat.le_refl _,by decide,rfl,rfl⟩⟩,rfl,fun j x hx=>?_⟩
 rcases j with _ | _ | j
 ·have hx':x = (l0,0):=by simpa using hx.symm
  subst hx'
  refine ⟨v0,rfl,Kd.R_reok rfl (Kd.R_lower h0 (by omega)) fun k hk=>⟨⟨trivial,?_⟩,?_⟩⟩
  ·rw [hown]
   have:=(RI_own h0 hk).1
   intro e;injection e with e;omega
  refine if_neg (fun e=>?_)
  rcases hap with h | h
  ·rw [h] at hk;cases hk
  exact h (hk.trans e)
 ·have hx':x = (l1,1):=by simpa using hx.symm
  subst hx'
  refine ⟨v1,rfl,Kd.R_reok rfl (Kd.R_lower h1 (by omega)) fun k hk=>⟨⟨trivial,?_⟩,?_⟩⟩
  ·rw [hown]
   have:=(RI_own h1 hk).1
   intro e;injection e with e;omega
  exact if_pos hk.symm
 simp at hx
theorem out_len (cl:List Int) (g:Nat) (σ:Nat → Bool) (b:Bool) (B:Nat) (hcl:∀ q:Nat,rd cl (q:Int) ≤ (B:Int)):∀ k,(outL cl g σ b k).length ≤ k * B
 | 0=>by simp [outL]
 | k + 1=>by
  have ih:=out_len cl g σ b B hcl k
  have e:outL cl g σ b (k + 1) = outL cl g σ b k ++ (if σ k = b then List.replicate (repN cl g k) (k:Int) else []):=by
   unfold outL
   rw [List.range_succ,List.flatMap_append];simp
  have hr:repN cl g k ≤ B:=by
   unfold repN
   exact Nat.le_trans (Nat.div_le_self _ _) (by have:=hcl k;omega)
  rw [e,List.length_append,Nat.succ_mul]
  split
  ·rw [List.length_replicate];omega
  simp;omega
set_option maxHeartbeats 8000000 in
set_option maxRecDepth 100000 in
theorem balance109 (ps sg:List Int) (σ:Nat → Bool) (hσ:∀ j:Nat,j < ps.length → decide (0 < rd sg (j:Int)) = σ (rd ps (j:Int)).toNat) (hm:sg.length = ps.length) (hl:ps.length ≤ 100000) (hps:∀ j:Nat,j < ps.length → 0 ≤ rd ps (j:Int) ∧ rd ps (j:Int) < 32) (hsg:∀ j:Nat,-1 ≤ rd sg (j:Int) ∧ rd sg (j:Int) ≤ 1) (A6 A7:Option Addr) (c6 c7:Nat) (w:World) (h6:Kd.C (Kd.int .i64) w A6 ps.length ps) (h7:Kd.C (Kd.int .i64) w A7 sg.length sg) :
  Calls Try.prog 109 #[.slice A6 ps.length c6,.slice A7 sg.length c7] w fun e w'=>∃ v,e = .returned v ∧ Kd.S (Kd.slice 3 (Kd.int .i64)) 22 w' w.heap.size (fun _=>True) v [outL (cntL ps ps.length) (gcN (cntL ps ps.length) 32) σ true 32,outL (cntL ps ps.length) (gcN (cntL ps ps.length) 32) σ false 32] ∧ Below w.heap.size w w':=by
 have hmm:=@run_makeMap Try.prog
 have HLN:=Lib.hid hm
 have HSI:=Lib.hid hσ
 clear hσ
 have HP:=Lib.hid h6
 have HS:=Lib.hid h7
 have HPS:=Lib.hid hps
 have HSG:=Lib.hid hsg
 clear h6 h7 hps hsg hm
 go_enter Try.func109,Try.ntmps109
 go_wp2_with fail
 go_loopg [19] ps.length (fun k s19 W=>∃ i:Nat,s19 = .int .i64 (i:Int) ∧ ps.length ≤ k + i ∧ B1 ps sg w i W)
 case atStart=>exact ⟨0,rfl,by omega,b1_start ps sg w⟩
 case round =>
  obtain ⟨i,rfl,hk,D,hi,hB,hsz,hrow,hown,hmap⟩:=hrel
  have HB:=Lib.hid hB
  have HR:=Lib.hid hrow
  have HM:=Lib.hid hmap
  clear hB hrow hmap
  by_cases hil:i < ps.length
  ·obtain ⟨p0,p1⟩:=HPS.out i hil
   obtain ⟨p,hp⟩:∃ p:Nat,rd ps (i:Int) = (p:Int):=⟨(rd ps (i:Int)).toNat,by omega⟩
   have hp32:(p:Int) < 32:=by omega
   have hp0:(0:Int) ≤ (p:Int):=by omega
   obtain ⟨ad6,e6,hx6⟩:=Kd.at_int HP.out (i:Int) (by omega) (by omega)
   obtain ⟨ad7,e7,hx7⟩:=Kd.at_int HS.out (i:Int) (by omega) (by have:=HLN.out;omega)
   cases e6
   cases e7
   rw [Int.toNat_natCast] at hx6 hx7
   rw [hp] at hx6
   have hy6:=(HB.out.cell (World.block_lt_of_cell? w _ hx6)).trans hx6
   have hb6:=World.block_lt_of_cell? w _ hx6
   have hy7:=(HB.out.cell (World.block_lt_of_cell? w _ hx7)).trans hx7
   have hb7:=World.block_lt_of_cell? w _ hx7
   obtain ⟨s,hs⟩:∃ s,rd sg (i:Int) = s:=⟨_,rfl⟩
   rw [hs] at hy7
   have hsb:=HSG.out i
   rw [hs] at hsb
   have hcell:=(cell_of_row _ w.heap.size p _ _ _ HR.out).trans (rowA_at (l:=cntL ps i) (i:=p) (by rw [cntL_len];omega))
   obtain ⟨x,hx0⟩:∃ x,rd (cntL ps i) (p:Int) = x:=⟨_,rfl⟩
   rw [hx0] at hcell
   have hxb:=cntL_bd ps i p
   rw [hx0] at hxb
   have hfz:=blk_frozen HR.out p
   have HX:=Lib.hid hx0
   have HPE:=Lib.hid hp
   have HSE:=Lib.hid hs
   have hkey:=keyI (a:=(p:Int)) (WalkArith.wf_i64 (by omega))
   have hil2:(i:Int) < (sg.length:Int):=by have:=HLN.out;omega
   have hne6:(ad6.add i).block ≠ w.heap.size:=by have:=addb ad6 i;omega
   have hne7:(ad7.add i).block ≠ w.heap.size:=by have:=addb ad7 i;omega
   have hn9:i < 9223372036854775807:=by omega
   have hxm:-9223372036854775808 ≤ x + 1 ∧ x + 1 ≤ 9223372036854775807:=by omega
   have hil3:ps.length - (i + 1) < gk:=by omega
   have hki:ps.length ≤ (ps.length - (i + 1)) + (i + 1):=by omega
   have hmx:i < maxLen:=by unfold maxLen;omega
   have hwf:=WalkArith.wf_i64 (n:=s) (by omega)
   have hownS:(wr.setCell { block:=w.heap.size,off:=p } (.int .i64 (x + 1))).ownsMap Try.prog 3 (plainElem Try.prog 3) (w.heap.size + 1) i D:=hown.setCell (a:={ block:=w.heap.size,off:=p }) (by show w.heap.size + 1 ≠ w.heap.size;omega) _
   have hw1:wrap64 (x + 1) = x + 1:=wrap_id hxm.1 hxm.2
   have hwi:=wrap_succ (i:=i) hn9
   have hz7:(wr.setCell { block:=w.heap.size,off:=p } (.int .i64 (x + 1))).cell? (ad7.add i) = some (.int .i64 s):=(cell_far hne7 _).trans hy7
   clear hx6 hx7 hx0 hp hs
   go_wp2_with (first
    | (at_mapUpdate;refine wpList_mapUpdate_own _ rfl _ _ _ 142 rfl 3 3 law3 Try.underlying142 _ (w.heap.size + 1) i D rfl hownS hmx _ _ _ rfl rfl hkey _ [] (plainElem_int Try.underlying3 hwf) ?_;intro w1 hown1 hgrow1;have HO1:=Lib.hid hown1;have HG1:=Lib.hid hgrow1;have HIL3:=Lib.hid hil3;have HKI:=Lib.hid hki;have HSZ:=Lib.hid hsz;have HP32:=Lib.hid hp32;have HIL:=Lib.hid hil;have HXM:=Lib.hid hw1;have HWI:=Lib.hid hwi;clear hown1 hgrow1 hwi hil3 hki hxm hp32 hp0 hil2 hb6 hb7 hne6 hne7 hsb hxb hsz hz7 hownS hcell hfz hy6 hy7 hkey hmx hwf hw1 hown p0 p1 hil hn9))
   go_roundg (ps.length - (i + 1))
   case measure=>exact HIL3.out
   case rel =>
    have hsz:=HSZ.out
    have hil:=HIL.out
    have hp32:=HP32.out
    have hne:some w.heap.size ≠ some (w.heap.size + 1):=some_ne (by omega)
    refine ⟨i + 1,rfl,HKI.out,D.put (.int .i64 (p:Int)) (.lit (.int .i64 s)),hil,?_,?_,?_,HO1.out,?_⟩
    ·exact (HB.out.setCell (Nat.le_refl _) _).grown HG1.out (HB.out.setCell (Nat.le_refl _) _).size (fun k e=>by injection e;omega)
    ·exact Nat.le_trans (by rw [size_set];exact hsz) HG1.out.size
    ·rw [HG1.out.block _ (by rw [size_set];omega) hne]
     refine (blk_set HR.out p _).trans ?_
     rw [rowA_set,cntL,HPE.out,Int.toNat_natCast,HX.out]
    rw [← HSE.out];exact mapS_succ HM.out HPE.out
  have:i = ps.length:=by omega
  subst this
  obtain ⟨cl,hcl⟩:∃ cl,cntL ps ps.length = cl:=⟨_,rfl⟩
  have hcll:cl.length = 32:=by rw [← hcl,cntL_len]
  have hr:=HR.out
  rw [hcl] at hr
  have HR2:=Lib.hid hr
  have HCL:=Lib.hid hcl
  have HO1:=Lib.hid hown
  have HSZ:=Lib.hid hsz
  clear hr hcl hown hsz
  have hin:(Try.prog.info? 141).map (·.size) = some ((cl.map (Value.int .i64)).toArray).size:=by
   rw [List.size_toArray,List.length_map,hcll];kernel_rfl
  go_wp2_with ((with_reducible refine gate_dst (N:=36) rfl ?_);refine wpList_load_row rfl 141 (.tmp 5) rfl w.heap.size rfl 141 _ _ _ HR2.out Try.underlying141 rfl hin ?_)
  obtain ⟨Wb,hWb⟩:∃ Wb,wr = Wb:=⟨_,rfl⟩
  subst hWb
  clear HR
  go_loopg [9,37] 32 (fun k s9 s37 W=>∃ (j m:Nat),s37 = .int .i64 (j:Int) ∧ s9 = .int .i64 (gcN cl j:Int) ∧ j ≤ 32 ∧ 32 ≤ k + j ∧ W = wr.drewN m)
  case atStart=>exact ⟨0,0,rfl,rfl,by omega,by omega,rfl⟩
  case round =>
   obtain ⟨j,m,rfl,rfl,hj,hk2,rfl⟩:=hrel
   by_cases hj32:j < 32
   ·have hix:=index141 hcll hj32 (wr.drewN m)
    obtain ⟨a0,ha0⟩:∃ a0:Nat,rd cl (j:Int) = (a0:Int):=⟨(rd cl (j:Int)).toNat,by have:=cntL_bd ps ps.length j;rw [HCL.out] at this;omega⟩
    rw [ha0] at hix
    have HA0:=Lib.hid ha0
    clear ha0
    have hw1:=wrap_succ (i:=j) (by omega)
    have HW1:=Lib.hid hw1
    clear hw1
    obtain ⟨d,hd⟩:∃ d,gcN cl j = d:=⟨_,rfl⟩
    rw [hd]
    have HD:=Lib.hid hd
    clear hd
    go_wp2_with fail
    go_loopg [9,12] a0 (fun k s9 s12 W=>∃ (x a m:Nat),s9 = .int .i64 (x:Int) ∧ s12 = .int .i64 (a:Int) ∧ a ≤ k ∧ Nat.gcd x a = Nat.gcd d a0 ∧ W = wr.drewN m)
    case atStart=>exact ⟨d,a0,m,rfl,rfl,Nat.le_refl _,rfl,rfl⟩
    case round =>
     obtain ⟨x,a,m2,rfl,rfl,hak,hg,rfl⟩:=hrel
     by_cases ha:0 < a
     case neg =>
      have:a = 0:=by omega
      subst this
      rw [Nat.gcd_zero_right] at hg
      subst hg
      have hw1:=HW1.out
      go_wp2_with fail
      go_roundg (32 - (j + 1))
      case measure=>clear hw1;omega
      case rel=>exact ⟨j + 1,m2,rfl,by rw [gcN,HD.out,HA0.out,Int.toNat_natCast],hj32,by clear hw1;omega,rfl⟩
     have hap:(0:Int) < (a:Int):=by omega
     have hne:(a:Int) ≠ 0:=by omega
     go_wp2_with fail
     go_quiet (fail)
     go_wp2_with fail
     go_roundg (x % a)
     case measure=>exact Nat.lt_of_lt_of_le (Nat.mod_lt x ha) hak
     case rel=>exact ⟨a,x % a,m2 + nq,rfl,rfl,Nat.le_refl _,by rw [← hg,Nat.gcd_comm x a,Nat.gcd_rec a x,Nat.gcd_comm],by rw [World.drewN_drewN]⟩
   have:j = 32:=by omega
   subst this
   obtain ⟨W2,hW2⟩:∃ W2,wr.drewN m = W2:=⟨_,rfl⟩
   have HB2:Hid (Below w.heap.size w W2):=Lib.hid (hW2 ▸ pw_below_drewN HB.out m)
   have HR3:Hid (W2.heap[w.heap.size]? = some (rowA cl)):=Lib.hid (hW2 ▸ HR2.out)
   have HO2:Hid (W2.ownsMap Try.prog 3 (plainElem Try.prog 3) (w.heap.size + 1) ps.length D):=Lib.hid (ownsMap_block HO1.out (by rw [← hW2];rfl))
   have HSZ2:Hid (w.heap.size + 2 ≤ W2.heap.size):=Lib.hid (hW2 ▸ HSZ.out)
   rw [hW2]
   clear hW2 HR2 HO1 HSZ HB
   obtain ⟨g,hg⟩:∃ g,gcN cl 32 = g:=⟨_,rfl⟩
   have hc32:((32:Nat):Int) = 32:=rfl
   rw [hg]
   have HG:=Lib.hid hg
   clear hg
   have HR4:Hid ((W2.alloc (.cells #[.slice none 0 0,.slice none 0 0] 22)).heap[w.heap.size]? = some (rowA cl)):=Lib.hid ((((Below.refl W2.heap.size W2).alloc (Nat.le_refl _) _).block _ (blk_lt HR3.out)).trans HR3.out)
   go_wp2_with ((with_reducible refine gate_dst (N:=49) rfl ?_);refine wpList_load_row rfl 141 (.tmp 5) rfl w.heap.size rfl 141 _ _ _ HR4.out Try.underlying141 rfl hin ?_)
   go_loopg [50] 32 (fun k s50 W=>∃ q:Nat,s50 = .int .i64 (q:Int) ∧ q ≤ 32 ∧ 32 ≤ k + q ∧ B3 w cl g σ D ps.length W2.heap.size q 0 W)
   case atStart =>
    have hal:Below W2.heap.size W2 (W2.alloc (.cells #[.slice none 0 0,.slice none 0 0] 22)):=(Below.refl _ _).alloc (Nat.le_refl _) _
    have hs2:=HSZ2.out
    refine ⟨0,rfl,by omega,by omega,.slice none 0 0,.slice none 0 0,HB2.out.alloc HB2.out.size _,ownsMap_block HO2.out (hal.block _ (by omega)),World.alloc_heap_new W2 _,?_,?_,.inl rfl,by rw [World.size_alloc];omega⟩
    ·rw [outJ_zero];exact Kd.R_nil _ _ _ _ _
    rw [outJ_zero];exact Kd.R_nil _ _ _ _ _
   case round =>
    obtain ⟨q,rfl,hq,hk2,v0,v1,hB,hown,hblk,hr0,hr1,hap,hge⟩:=hrel
    by_cases hq32:q < 32
    case neg =>
     have:q = 32:=by omega
     subst this
     have hs2:=HSZ2.out
     have hS:=s_two (base:=w.heap.size) (by omega) hblk hr0 hr1 hap
     rw [outJ_zero,outJ_zero] at hS
     have HSS:=Lib.hid hS
     have HBB:=Lib.hid hB
     clear hS hB hown hblk hr0 hr1 hap hge hs2
     go_wp2_with fail
     refine bodyPost_ret (v:=.slice (some { block:=W2.heap.size,off:=0 }) 2 2) (results_tmp (t:=4) rfl _ _ _) rfl ⟨_,rfl,?_,HBB.out⟩
     rw [HCL.out,HG.out]
     exact HSS.out
    have hix:=index141 hcll hq32 wr
    obtain ⟨a0,ha0⟩:∃ a0:Nat,rd cl (q:Int) = (a0:Int):=⟨(rd cl (q:Int)).toNat,by have:=cntL_bd ps ps.length q;rw [HCL.out] at this;omega⟩
    rw [ha0] at hix
    have HA0:=Lib.hid ha0
    clear ha0
    obtain ⟨M,hM⟩:∃ M,max g 1 = M:=⟨_,rfl⟩
    have hmx:(if (g:Int) < 1 then (1:Int) else (g:Int)) = (M:Int):=by split <;> omega
    have hM1:1 ≤ M:=by omega
    have hM0:(M:Int) ≠ 0:=by omega
    obtain ⟨R,hR⟩:∃ R,a0 / M = R:=⟨_,rfl⟩
    have hd1:Int.tdiv (a0:Int) (M:Int) = (R:Int):=by rw [← hR];rfl
    have hd2:(a0:Int) / (M:Int) = (R:Int):=by rw [← hR];rfl
    have hRp:repN cl g q = R:=by unfold repN;rw [HA0.out,hM,Int.toNat_natCast,hR]
    have hRa:R ≤ a0:=by rw [← hR];exact Nat.div_le_self _ _
    have HRP:=Lib.hid hRp
    have hRl:a0 ≤ 100000:=by
     have h1:=(cntL_bd ps ps.length q).2
     rw [HCL.out,HA0.out] at h1
     omega
    have HW1:=Lib.hid (wrap_succ (i:=q) (by omega))
    clear hRp hM
    go_wp2_with fail
    have HRL:Hid (R ≤ 100000):=Lib.hid (by omega)
    clear hmx hd1 hd2 hM0 hM1 hix hRl
    have h51:decide ((q:Int) < 32) = true:=decide_eq_true (by omega)
    simp only [h51]
    clear h51
    go_loopg [58] R (fun k s58 W=>∃ j:Nat,s58 = .int .i64 (j:Int) ∧ j ≤ R ∧ R ≤ k + j ∧ B3 w cl g σ D ps.length W2.heap.size q j W)
    case atStart=>exact ⟨0,rfl,by omega,by omega,v0,v1,hB,hown,hblk,hr0,hr1,hap,hge⟩
    case round =>
     clear hB hown hblk hr0 hr1 hap hge
     obtain ⟨j,rfl,hj,hk3,v0,v1,hB,hown,hblk,hr0,hr1,hap,hge⟩:=hrel
     by_cases hjR:j < R
     case neg =>
      have:j = R:=by omega
      subst this
      have HB3:Hid (B3 w cl g σ D ps.length W2.heap.size (q + 1) 0 wr):=Lib.hid ⟨v0,v1,hB,hown,hblk,by rw [outJ_zero,← outJ_end,HRP.out];exact hr0,by rw [outJ_zero,← outJ_end,HRP.out];exact hr1,hap,hge⟩
      have HQ:=Lib.hid (show q + 1 ≤ 32 ∧ 32 ≤ 32 - (q + 1) + (q + 1) ∧ 32 - (q + 1) < _ from ⟨hq32,by omega,show 32 - (q + 1) < 32 - q by omega⟩)
      have HK2:=Lib.hid hk2
      clear hB hown hblk hr0 hr1 hap hge hj hk3 hk2 hq hq32 hRa hjR hcll hin hc32 hil hi hk hl
      have hw1:=HW1.out
      go_wp2_with fail
      go_roundg (32 - (q + 1))
      case measure=>exact Nat.lt_of_lt_of_le HQ.out.2.2 (by have:=HK2.out;clear hw1;omega)
      case rel=>exact ⟨q + 1,rfl,HQ.out.1,HQ.out.2.1,HB3.out⟩
     have HKEY:=Lib.hid (keyI (a:=(q:Int)) (WalkArith.wf_i64 (by omega)))
     have hcp:0 < rd (cntL ps ps.length) (q:Int):=by rw [HCL.out,HA0.out];omega
     have HSG2:Hid (∀ c:Int,D.atKey (.int .i64 (q:Int)) (.lit (.int .i64 0)) = .lit (.int .i64 c) → decide (0 < c) = σ q):=Lib.hid fun c h=>mapS_sign HSI.out HM.out hcp h
     have HN:Hid (w.heap.size + 1 < W2.heap.size):=Lib.hid (by have:=HSZ2.out;omega)
     have hol:∀ b,(outJ cl g σ b q j).length + 1 ≤ 4000000:=fun b=>by
      have h1:=out_len cl g σ b 100000 (fun u=>by
       have:=(cntL_bd ps ps.length u).2
       rw [HCL.out] at this
       omega) q
      have h2:q * 100000 ≤ 32 * 100000:=Nat.mul_le_mul_right _ hq
      have h3:=HRL.out
      unfold outJ
      rw [List.length_append]
      split
      ·rw [List.length_replicate];omega
      simp;omega
     have HL0:Hid (((outJ cl g σ true q j).length + 1) * 8 ≤ 140737488355328):=Lib.hid (by have:=hol true;omega)
     have HL1:Hid (((outJ cl g σ false q j).length + 1) * 8 ≤ 140737488355328):=Lib.hid (by have:=hol false;omega)
     have HME:=Lib.hid (show j + 1 ≤ R ∧ R ≤ R - (j + 1) + (j + 1) ∧ R - (j + 1) < _ from ⟨hjR,by omega,show R - (j + 1) < gk by omega⟩)
     have hc0:=cell_of_row _ W2.heap.size 0 _ _ _ hblk
     have hc1:=cell_of_row _ W2.heap.size 1 _ _ _ hblk
     have hlt:=blk_lt hblk
     have HBLK:=Lib.hid hblk
     have HOWN:=Lib.hid hown
     have HBW:=Lib.hid hB
     have HR0:=Lib.hid hr0
     have HR1:=Lib.hid hr1
     have HAP:=Lib.hid hap
     have HGE:=Lib.hid hge
     have hw1:=wrap_succ (i:=j) (by have:=HRL.out;omega)
     obtain ⟨b,hsb⟩:∃ b,σ q = b:=⟨_,rfl⟩
     have HSB:=Lib.hid hsb
     clear hsb hcp hol hB hown hblk hr0 hr1 hap hge hj hk3 hk2 hq hq32 hRa hcll hin hc32 hil hi hk hl
     cases b with
     | true =>
      go_wp2_with (first
       | (at_lookup;refine wpList_lookup_own_int _ rfl _ _ 142 rfl 3 3 .i64 law3 Try.underlying142 Try.underlying3 (zero3 _) (w.heap.size + 1) ps.length D rfl HOWN.out _ _ rfl HKEY.out ?_;intro c hat hwc;have hcs:=(HSG2.out c hat).trans HSB.out;have hcs2:0 < c:=of_decide_eq_true hcs;clear hat hwc)
       | ((with_reducible refine gate_builtin (b:=.append) (xs:=#[.tmp 67,.tmp 69]) rfl ?_);at_builtin;(refine Kd.R_append (Kd.int .i64) (w0:=wr) (W2.heap.size + 1) rfl (.tmp 67) (.tmp 69) 22 3 (.int .i64 0) 8 rfl Try.underlying22 info3 rfl (by decide) (by omega) v0 (outJ cl g σ true q j) (q:Int) [.int .i64 (q:Int)] (fun _=>True) (fun _=>False) rfl (by first | (go_simp;done) | (go_simp;rfl)) ?aP (fun _ hk=>hk.elim) ?aF ?aO ?aB ?aS ?aL ?_);(case aB=>exact Below.refl _ wr);(case aP=>exact rfl);(case aF=>exact (fun _ _=>trivial));(case aO=>exact HR0.out);(case aS=>exact HGE.out);(case aL=>exact HL0.out);intro v6 w4 ho4 hb4 hg4 hat4;obtain ⟨Av,cv,ev⟩:=Kd.R_slice ho4;rw [List.length_append,List.length_singleton] at ev;subst ev;have hblk4:=(hb4.block W2.heap.size (Nat.lt_succ_self _)).trans HBLK.out;have hfz4:=blk_frozen hblk4 0;have hlt4:=blk_lt hblk4;have hcc4:=cell_of_row _ W2.heap.size 0 _ _ _ hblk4;have HO4:=Lib.hid ho4;have HB4:=Lib.hid hb4;have HG4:=Lib.hid hg4;have HAT4:=Lib.hid hat4;clear ho4 hb4 hg4 hat4 hblk4))
      go_roundg (R - (j + 1))
      case measure=>exact HME.out.2.2
      case rel=>exact ⟨j + 1,by first | rfl | exact congrArg (Value.int .i64) hw1,HME.out.1,HME.out.2.1,b3_put0 HN.out HSB.out HBW.out HOWN.out HBLK.out HR0.out HR1.out HAP.out HGE.out HO4.out HB4.out HG4.out HAT4.out⟩
     | false =>
      go_wp2_with (first
       | (at_lookup;refine wpList_lookup_own_int _ rfl _ _ 142 rfl 3 3 .i64 law3 Try.underlying142 Try.underlying3 (zero3 _) (w.heap.size + 1) ps.length D rfl HOWN.out _ _ rfl HKEY.out ?_;intro c hat hwc;have hcs:=(HSG2.out c hat).trans HSB.out;have hcs2:¬ 0 < c:=of_decide_eq_false hcs;clear hat hwc)
       | ((with_reducible refine gate_builtin (b:=.append) (xs:=#[.tmp 75,.tmp 77]) rfl ?_);at_builtin;(refine Kd.R_append (Kd.int .i64) (w0:=wr) (W2.heap.size + 1) rfl (.tmp 75) (.tmp 77) 22 3 (.int .i64 0) 8 rfl Try.underlying22 info3 rfl (by decide) (by omega) v1 (outJ cl g σ false q j) (q:Int) [.int .i64 (q:Int)] (fun _=>True) (fun _=>False) rfl (by first | (go_simp;done) | (go_simp;rfl)) ?aP (fun _ hk=>hk.elim) ?aF ?aO ?aB ?aS ?aL ?_);(case aB=>exact Below.refl _ wr);(case aP=>exact rfl);(case aF=>exact (fun _ _=>trivial));(case aO=>exact HR1.out);(case aS=>exact HGE.out);(case aL=>exact HL1.out);intro v6 w4 ho4 hb4 hg4 hat4;obtain ⟨Av,cv,ev⟩:=Kd.R_slice ho4;rw [List.length_append,List.length_singleton] at ev;subst ev;have hblk4:=(hb4.block W2.heap.size (Nat.lt_succ_self _)).trans HBLK.out;have hfz4:=blk_frozen hblk4 1;have hlt4:=blk_lt hblk4;have hcc4:=cell_of_row _ W2.heap.size 1 _ _ _ hblk4;have HO4:=Lib.hid ho4;have HB4:=Lib.hid hb4;have HG4:=Lib.hid hg4;have HAT4:=Lib.hid hat4;clear ho4 hb4 hg4 hat4 hblk4))
      go_roundg (R - (j + 1))
      case measure=>exact HME.out.2.2
      case rel=>exact ⟨j + 1,by first | rfl | exact congrArg (Value.int .i64) hw1,HME.out.1,HME.out.2.1,b3_put1 HN.out HSB.out HBW.out HOWN.out HBLK.out HR0.out HR1.out HAP.out HGE.out HO4.out HB4.out HG4.out HAT4.out⟩
end Go.Proofs.Ythpahlkhiknofaa.H
set_option linter.unusedSimpArgs false
namespace Go.Proofs.Ythpahlkhiknofaa.H
open Go Go.RowKit Go.Shelf Go.Maps Go.Proofs.Ythpahlkhiknofaa.G Go.Proofs.Ythpahlkhiknofaa.P Go.Proofs.YthpahlkhiknofaaW.PrintWords Go.Proofs.YthpahlkhiknofaaW.PrintLast Go.Proofs.YthpahlkhiknofaaW.PrintMore
set_option maxHeartbeats 8000000 in
set_option maxRecDepth 100000 in
theorem weigh79r (n:Nat) (hn:n ≤ 5) (s:ByteArray) (hsz:s.size ≤ 1000) (st:Nat → List Int) (pt sg:Nat → Int) (J K:Nat) (hK:K ≤ 100000) (hJ:J < K) (hW:Wg n s st pt sg K) (hrep:st J = st K) (hpt:∀ i,i < K → pt i < 32) (hsg:∀ i,-1 ≤ sg i ∧ sg i ≤ 1) (σ:Nat → Bool) (hσ:∀ i,i < K → decide (0 < sg i) = σ (pt i).toNat) (ls:List (List Int)) (hls:ls = [outL (cntL ((seqI pt K).drop J) (K - J)) (gcN (cntL ((seqI pt K).drop J) (K - J)) 32) σ true 32,outL (cntL ((seqI pt K).drop J) (K - J)) (gcN (cntL ((seqI pt K).drop J) (K - J)) 32) σ false 32]) (w:World) :
  Calls Try.prog 79 #[.agg #[.int .i64 (n:Int),.string s]] w fun e w'=>∃ v:Value,e = .returned (.tuple #[stV (st K),v]) ∧ Kd.S (Kd.slice 3 (Kd.int .i64)) 22 w' w.heap.size (fun _=>True) v ls ∧ Below w.heap.size w w':=by
 have hmm:=@run_makeMap Try.prog
 have hW0:=hW.z
 have HW:=Lib.hid hW
 have HREP:=Lib.hid hrep
 have HPT:=Lib.hid hpt
 have HSG:=Lib.hid hsg
 have HSI:=Lib.hid hσ
 have HLS:=Lib.hid hls
 clear hW hrep hpt hsg hσ hls
 go_enter Try.func79,Try.ntmps79
 go_wp2_with fail
 go_loopg [6,7] K (fun k v6 v7 W=>∃ i:Nat,K ≤ k + i ∧ WRel n s st pt sg K w i v6 v7 W)
 case atStart =>
  exact wrel_start hW0 w
 case round =>
  obtain ⟨i,hk,D,hi,hB,h1,h2,h4,hown,hmap,hr6,hr7,hap,hge⟩:=hrel
  obtain ⟨A6,c6,e6⟩:=Kd.R_slice hr6
  rw [seqI_len] at e6
  subst e6
  obtain ⟨x0,x1,x2,x3,x4,x5,hx⟩:=six (st i) (HW.out.len i)
  rw [hx] at h4
  have HB:=Lib.hid hB
  have H1:=Lib.hid h1
  have H2:=Lib.hid h2
  have H4:=Lib.hid h4
  have HM:=Lib.hid hmap
  have HR6:=Lib.hid hr6
  have HR7:=Lib.hid hr7
  have HAP:=Lib.hid hap
  have HX:=Lib.hid hx
  clear hB h1 h2 h4 hmap hr6 hr7 hap hx
  have hkey:keyOf Try.prog 88 (.agg #[.int .i64 x0,.int .i64 x1,.int .i64 x2,.int .i64 x3,.int .i64 x4,.int .i64 x5]) = some (kS (st i)):=by
   have:=kS_eq (HW.out.len i) (HW.out.wf i hi)
   rw [HX.out] at this ⊢
   exact this
  obtain ⟨q0,q1,q2,q3,q4,q5⟩:=cells6 H4.out
  by_cases hiK:i < K
  ·have hhas:Maps.has D (kS (st i)) = false:=HM.out.no _ (HW.out.len i) (HW.out.wf i hi) fun j hj=>HW.out.inj j i hj hiK
   go_wp2_with (first
    | (at_lookup;refine wpList_lookup_own_ok_int _ rfl _ _ 129 rfl 88 3 .i64 law88 Try.underlying129 Try.underlying3 (zero3 _) (w.heap.size + 3) i D rfl hown _ _ rfl hkey ?_;intro c hat hwc;rw [hhas])
    | (at_mapUpdate;refine wpList_mapUpdate_own _ rfl _ _ _ 129 rfl 88 3 law88 Try.underlying129 _ (w.heap.size + 3) i D rfl hown (by unfold maxLen;omega) _ _ _ rfl rfl hkey _ [] (plainElem_int Try.underlying3 (WalkArith.wf_i64 (by omega))) ?_;intro w1 hown1 hgrow1;have g4:=(hgrow1.block (w.heap.size + 2) (by omega) (some_ne (by omega))).trans H4.out;obtain ⟨q0,q1,q2,q3,q4,q5⟩:=cells6 g4;have g1:=(hgrow1.block w.heap.size (by omega) (some_ne (by omega))).trans H1.out;have hca:=cell_of_row _ w.heap.size 0 _ _ _ g1;have hcb:=cell_of_row _ w.heap.size 1 _ _ _ g1))
   have hs1:w.heap.size + 4 ≤ w1.heap.size:=Nat.le_trans hge hgrow1.size
   have g2:=(hgrow1.block (w.heap.size + 1) (by omega) (some_ne (by omega))).trans H2.out
   have hB1:Below w.heap.size w w1:=HB.out.grown hgrow1 HB.out.size (fun k e=>by injection e;omega)
   have hr6:=Kd.R_grown1 HR6.out rfl hgrow1 (map_ne hown HR6.out)
   have hr7:=Kd.R_grown1 HR7.out rfl hgrow1 (map_ne hown HR7.out)
   obtain ⟨hwr,hp0,hst⟩:=HW.out.step i hiK
   rw [HX.out] at hwr hst
   have HC:=wrong110 [x0,x1,x2,x3,x4,x5] rfl n hn s hsz w1
   rw [hwr] at HC
   refine HC.mono ?_
   rintro e w2 ⟨rfl,hb2⟩
   obtain ⟨p,hpe⟩:∃ p,pt i = p:=⟨_,rfl⟩
   obtain ⟨q,hqe⟩:∃ q,sg i = q:=⟨_,rfl⟩
   rw [hpe] at hp0 hst ⊢
   rw [hqe] at hst ⊢
   have hlt:decide (p < 0) = false:=decide_eq_false (by omega)
   have hlt2:¬ p < 0:=by omega
   have hs2:w.heap.size + 4 ≤ w2.heap.size:=Nat.le_trans hs1 hb2.size
   have g12:=(hb2.block _ (blk_lt g1)).trans g1
   have g22:=(hb2.block _ (blk_lt g2)).trans g2
   have g42:=(hb2.block _ (blk_lt g4)).trans g4
   have hca2:=cell_of_row _ w.heap.size 0 _ _ _ g12
   obtain ⟨y0,y1,y2,y3,y4,y5⟩:=cells6 g42
   have G12:=Lib.hid g12
   have G22:=Lib.hid g22
   have G42:=Lib.hid g42
   have HB2:=Lib.hid (hB1.trans (hb2.mono hB1.size))
   have HO2:=Lib.hid (ownsMap_block hown1 (hb2.block (w.heap.size + 3) (by omega)))
   have H62:=Lib.hid (RI_step hr6 fun k _ h=>hb2.block k h)
   have H72:=Lib.hid (RI_step hr7 fun k _ h=>hb2.block k h)
   have HST:=Lib.hid hst
   have HWR:=Lib.hid hwr
   have HP:=Lib.hid hpe
   have HQ:=Lib.hid hqe
   have HM1:=Lib.hid (mapI_succ HM.out HW.out.len (fun j hj=>HW.out.wf j (by omega)) (fun j hj=>HW.out.inj j i hj hiK))
   clear HC hwr hst hpe hqe hb2 g12 g22 g42 hB1 hown1 hr6 hr7 g1 g2 g4 hca hcb q0 q1 q2 q3 q4 q5 hown hat hhas hkey hgrow1 hs1
   go_wp2_with fail
   refine (changed63 [x0,x1,x2,x3,x4,x5] rfl n hn p q _).mono ?_
   rintro e w3 ⟨rfl,hb3⟩
   obtain ⟨z0,z1,z2,z3,z4,z5,hz⟩:=six (chV [x0,x1,x2,x3,x4,x5] p q n) (by rw [chV_len];rfl)
   rw [hz]
   have g43:=(hb3.block _ (blk_lt G42.out)).trans G42.out
   obtain ⟨f0,f1,f2,f3,f4,f5⟩:=frozen6 g43
   obtain ⟨r0,r1,r2,r3,r4,r5⟩:=cells6 g43
   have G13:=Lib.hid ((hb3.block _ (blk_lt G12.out)).trans G12.out)
   have G23:=Lib.hid ((hb3.block _ (blk_lt G22.out)).trans G22.out)
   have G43:=Lib.hid g43
   have HB3:=Lib.hid (HB2.out.trans (hb3.mono HB2.out.size))
   have HO3:=Lib.hid (ownsMap_block HO2.out (hb3.block (w.heap.size + 3) (by omega)))
   have H63:=Lib.hid (RI_step H62.out fun k _ h=>hb3.block k h)
   have H73:=Lib.hid (RI_step H72.out fun k _ h=>hb3.block k h)
   have hs3:w.heap.size + 4 ≤ w3.heap.size:=Nat.le_trans hs2 hb3.size
   have HZ:=Lib.hid hz
   clear hb3 g43 hz y0 y1 y2 y3 y4 y5 hca2 HB2 G12 G22 G42 HO2 H62 H72
   unfold stV
   have e6:=blk_set (blk_set (blk_set (blk_set (blk_set (blk_set G43.out 0 (.int .i64 z0)) 1 (.int .i64 z1)) 2 (.int .i64 z2)) 3 (.int .i64 z3)) 4 (.int .i64 z4)) 5 (.int .i64 z5)
   have HE6:=Lib.hid e6
   clear e6
   go_wp2_with (first
    | ((with_reducible refine gate_builtin (b:=.append) (xs:=#[.tmp 47,.tmp 49]) rfl ?_);at_builtin;obtain ⟨W4,hW4⟩:∃ W4,((((((w3.setCell { block:=w.heap.size + 1 + 1,off:=0 } (.int .i64 z0)).setCell { block:=w.heap.size + 1 + 1,off:=1 } (.int .i64 z1)).setCell { block:=w.heap.size + 1 + 1,off:=2 } (.int .i64 z2)).setCell { block:=w.heap.size + 1 + 1,off:=3 } (.int .i64 z3)).setCell { block:=w.heap.size + 1 + 1,off:=4 } (.int .i64 z4)).setCell { block:=w.heap.size + 1 + 1,off:=5 } (.int .i64 z5)) = W4:=⟨_,rfl⟩;rw [hW4];have hs4:W4.heap.size = w3.heap.size:=(by rw [← hW4];simp only [size_set]);have H64:RI W4 (w.heap.size + 4) (.slice A6 i c6) (seqI pt i):=(by rw [← hW4];exact RI_set (RI_set (RI_set (RI_set (RI_set (RI_set (H63.out) (by omega) _) (by omega) _) (by omega) _) (by omega) _) (by omega) _) (by omega) _);have H74:RI W4 (w.heap.size + 4) u7 (seqI sg i):=(by rw [← hW4];exact RI_set (RI_set (RI_set (RI_set (RI_set (RI_set (H73.out) (by omega) _) (by omega) _) (by omega) _) (by omega) _) (by omega) _) (by omega) _);have HW4:=Lib.hid hW4;have HH64:=Lib.hid H64;have HH74:=Lib.hid H74;clear hW4 H64 H74;(refine Kd.R_append (Kd.int .i64) (w0:=W4) (w.heap.size + 4) rfl (.tmp 47) (.tmp 49) 22 3 (.int .i64 0) 8 rfl Try.underlying22 info3 rfl (by decide) (by omega) (.slice A6 i c6) (seqI pt i) p [.int .i64 p] (fun _=>True) (fun _=>False) rfl (by rw [hs4];first | (go_simp;done) | (go_simp;rfl)) ?aP (fun _ hk=>hk.elim) ?aF ?aO ?aB ?aS ?aL ?_);(case aB=>exact Below.refl _ W4);(case aP=>exact rfl);(case aF=>exact (fun _ _=>trivial));(case aO=>exact HH64.out);(case aS=>rw [hs4];exact hs3);(case aL=>rw [seqI_len];omega);intro v6 w4 ho4 hb4 hg4 hat4)
    | ((with_reducible refine gate_builtin (b:=.append) (xs:=#[.tmp 51,.tmp 53]) rfl ?_);at_builtin;refine Kd.R_append (Kd.int .i64) (w0:=w4) (w.heap.size + 4) rfl (.tmp 51) (.tmp 53) 22 3 (.int .i64 0) 8 rfl Try.underlying22 info3 rfl (by decide) (by omega) u7 (seqI sg i) q [.int .i64 q] (fun _=>True) (fun _=>False) rfl (by first | (go_simp;done) | (go_simp;rfl)) ?aP (fun _ hk=>hk.elim) ?aF ?aO ?aB ?aS ?aL ?_;(case aB=>exact Below.refl _ w4);(case aP=>exact rfl);(case aF=>exact (fun _ _=>trivial));(case aO=>exact Kd.R_grown2 HH74.out rfl hg4 (ap_sym HAP.out));(case aS=>exact Nat.le_trans (hs4 ▸ hs3) hb4.size);(case aL=>rw [seqI_len];omega);intro v7 w5 ho5 hb5 hg5 hat5))
   go_roundg (K - (i + 1))
   case measure=>omega
   case rel =>
    have hne6:∀ k,u7.ownBlock = some k → some k ≠ v6.ownBlock:=fun k hk e=>by
     rcases hat4 with h | ⟨b,h,hle⟩
     ·rw [h] at e
      rcases HAP.out with h2 | h2
      ·rw [h2] at e;cases e
      exact h2 (e.symm.trans hk.symm)
     rw [h] at e
     have:=(RI_own HH74.out hk).2
     injection e with e
     omega
    have h6:=Kd.R_grown2 ho4 rfl hg5 hne6
    have hblk:∀ k,k < w.heap.size + 4 → k ≠ w.heap.size + 2 → w5.heap[k]? = w3.heap[k]?:=fun k hk hne=>by
     rw [hb5.block k hk,hb4.block k hk,← HW4.out]
     have hd:∀ o:Nat,k ≠ ({ block:=w.heap.size + 1 + 1,off:=o }:Addr).block:=fun o=>by show k ≠ w.heap.size + 1 + 1;omega
     rw [Below.heap_setCell _ _ _ _ (hd 5),Below.heap_setCell _ _ _ _ (hd 4),Below.heap_setCell _ _ _ _ (hd 3),Below.heap_setCell _ _ _ _ (hd 2),Below.heap_setCell _ _ _ _ (hd 1),Below.heap_setCell _ _ _ _ (hd 0)]
    have hg2:w.heap.size ≤ w.heap.size + 1 + 1:=by omega
    have hB4:Below w.heap.size w W4:=by
     rw [← HW4.out]
     exact (((((HB3.out.setCell hg2 _).setCell hg2 _).setCell hg2 _).setCell hg2 _).setCell hg2 _).setCell hg2 _
    refine ⟨i + 1,by omega,_,hiK,hB4.trans ((hb4.mono (by omega)).trans (hb5.mono (by omega))),(hblk _ (by omega) (by omega)).trans G13.out,(hblk _ (by omega) (by omega)).trans G23.out,?_,ownsMap_block HO3.out (hblk _ (by omega) (by omega)),HM1.out,?_,?_,?_,?_⟩
    ·rw [hb5.block _ (by omega),hb4.block _ (by omega),← HW4.out,HST.out,HZ.out]
     exact HE6.out
    ·rw [seqI_succ,HP.out];exact h6
    ·rw [seqI_succ,HQ.out];exact ho5
    ·rcases hat5 with h | ⟨b,h,hle⟩
     ·rw [h]
      cases e:v6.ownBlock with
      | none=>exact .inl rfl
      | some k =>
       right
       intro e2
       exact hne6 k e2.symm e.symm
     rw [h]
     cases e:v6.ownBlock with
     | none=>exact .inl rfl
     | some k =>
      right
      intro e2
      have:=(RI_own ho4 e).2
      injection e2 with e2
      omega
    exact Nat.le_trans (Nat.le_trans (hs4 ▸ hs3) hb4.size) hb5.size
  obtain rfl:i = K:=by omega
  obtain ⟨hhas,hatJ⟩:=HM.out.at_ J hJ
  rw [HREP.out] at hhas hatJ
  go_wp2_with (first
   | (at_lookup;refine wpList_lookup_own_ok_int _ rfl _ _ 129 rfl 88 3 .i64 law88 Try.underlying129 Try.underlying3 (zero3 _) (w.heap.size + 3) i D rfl hown _ _ rfl hkey ?_;intro c hat hwc;rw [hhas];obtain rfl:c = (J:Int):=(by rw [hatJ] at hat;injection hat with hat;injection hat with _ hat;exact hat.symm);clear hat hwc))
  obtain ⟨A7,c7,e7⟩:=Kd.R_slice HR7.out
  rw [seqI_len] at e7
  subst e7
  have hps:∀ j:Nat,j < i - J → rd ((seqI pt i).drop J) (j:Int) = pt (J + j):=fun j hj=>by
   rw [rd_get (by rw [List.length_drop,seqI_len];exact hj),List.getElem_drop]
   simp [seqI]
  have hsgl:∀ j:Nat,j < i - J → rd ((seqI sg i).drop J) (j:Int) = sg (J + j):=fun j hj=>by
   rw [rd_get (by rw [List.length_drop,seqI_len];exact hj),List.getElem_drop]
   simp [seqI]
  have hl6:((seqI pt i).drop J).length = i - J:=by rw [List.length_drop,seqI_len]
  have hl7:((seqI sg i).drop J).length = i - J:=by rw [List.length_drop,seqI_len]
  have hd6:=Kd.C_drop (m:=J) (Kd.R_reads' HR6.out).2.2 (by rw [seqI_len];omega) (Kd.R_reads' HR6.out |>.2.1 |> fun h=>by rw [seqI_len];exact h)
  have hd7:=Kd.C_drop (m:=J) (Kd.R_reads' HR7.out).2.2 (by rw [seqI_len];omega) (Kd.R_reads' HR7.out |>.2.1 |> fun h=>by rw [seqI_len];exact h)
  have hC:=balance109 ((seqI pt i).drop J) ((seqI sg i).drop J) σ (fun j hj=>by
    rw [hl6] at hj
    rw [hps j hj,hsgl j hj]
    exact HSI.out _ (by omega)) (by rw [hl6,hl7]) (by rw [hl6];omega) (fun j hj=>by
    rw [hl6] at hj
    rw [hps j hj]
    exact ⟨(HW.out.step (J + j) (by omega)).2.1,HPT.out _ (by omega)⟩) (fun j=>by
    by_cases hj:j < i - J
    ·rw [hsgl j hj];exact HSG.out _
    have:rd ((seqI sg i).drop J) (j:Int) = 0:=by
     unfold rd
     rw [List.getD_eq_getElem?_getD,List.getElem?_eq_none (by rw [hl7,Int.toNat_natCast];omega)];rfl
    rw [this];decide) _ _ (c6 - J) (c7 - J) wr.drew (Kd.C_drew hd6) (Kd.C_drew hd7)
  have hm1:J * (Kd.int .i64).sz = J:=Nat.mul_one J
  have hn6:¬ c6 = J:=by have:=(Kd.R_reads' HR6.out).2.1;omega
  have hn7:¬ c7 = J:=by have:=(Kd.R_reads' HR7.out).2.1;omega
  rw [hl6,hl7,hm1,if_neg hn6,if_neg hn7,← HLS.out] at hC
  have HC:=Lib.hid hC
  clear hC hd6 hd7 hps hsgl hl6 hl7 hm1
  have hJ1:(J:Int) ≤ (i:Int):=by omega
  have hJ0:(0:Int) ≤ (J:Int):=by omega
  have hlt4:=blk_lt H4.out
  have hlt2:=blk_lt H2.out
  refine start_ (n:=10) (S:=(fun w'=>w'.cell? ⟨w.heap.size + 1 + 1,0,none⟩ = some (.int .i64 x0) ∧ w'.cell? ⟨w.heap.size + 1 + 1,1,none⟩ = some (.int .i64 x1) ∧ w'.cell? ⟨w.heap.size + 1 + 1,2,none⟩ = some (.int .i64 x2) ∧ w'.cell? ⟨w.heap.size + 1 + 1,3,none⟩ = some (.int .i64 x3) ∧ w'.cell? ⟨w.heap.size + 1 + 1,4,none⟩ = some (.int .i64 x4) ∧ w'.cell? ⟨w.heap.size + 1 + 1,5,none⟩ = some (.int .i64 x5))) (ds:=[8]) #[false,false,false,false,false,false,false,false,false,false] (by kernel_rfl) rfl rfl ⟨q0,q1,q2,q3,q4,q5⟩ (fun hHeld=>?_)
  refine pure_ (i:=1) (N:=some 21) (v:=?_) (a':=?_) #[false,true,false,false,false,false,false,false,false,false] rfl rfl (by kernel_rfl) (fun _ _ _ h=>h) (Or.inl ⟨by rfl,?_⟩) ?_ ?_
  rotate_left
  ·intro w'
   go_simp
   with_reducible rfl
  rotate_left
  ·simp only [Act.put,List.setIfInBounds_toArray,List.set_cons_zero,List.set_cons_succ,i64_w,i32_w]
   rfl
  refine pure_ (i:=2) (N:=some 22) (v:=?_) (a':=?_) #[false,true,true,false,false,false,false,false,false,false] rfl rfl (by kernel_rfl) (fun _ _ _ h=>h) (Or.inl ⟨by rfl,?_⟩) ?_ ?_
  rotate_left
  ·intro w'
   go_simp
   with_reducible rfl
  rotate_left
  ·simp only [Act.put,List.setIfInBounds_toArray,List.set_cons_zero,List.set_cons_succ,i64_w,i32_w]
   rfl
  refine pure_ (i:=3) (N:=some 23) (v:=?_) (a':=?_) #[false,true,true,true,false,false,false,false,false,false] rfl rfl (by kernel_rfl) (fun _ _ _ h=>h) (Or.inl ⟨by rfl,?_⟩) ?_ ?_
  rotate_left
  ·intro w'
   go_simp
   with_reducible rfl
  rotate_left
  ·simp only [Act.put,List.setIfInBounds_toArray,List.set_cons_zero,List.set_cons_succ,i64_w,i32_w]
   rfl
  refine pure_ (i:=4) (N:=some 24) (v:=?_) (a':=?_) #[false,true,true,true,true,false,false,false,false,false] rfl rfl (by kernel_rfl) (fun _ _ _ h=>h) (Or.inl ⟨by rfl,?_⟩) ?_ ?_
  rotate_left
  ·intro w'
   go_simp
   with_reducible rfl
  rotate_left
  ·simp only [Act.put,List.setIfInBounds_toArray,List.set_cons_zero,List.set_cons_succ,i64_w,i32_w]
   rfl
  refine pure_ (i:=5) (N:=some 25) (v:=?_) (a':=?_) #[false,true,true,true,true,true,false,false,false,false] rfl rfl (by kernel_rfl) (fun _ _ _ h=>h) (Or.inl ⟨by rfl,?_⟩) ?_ ?_
  rotate_left
  ·intro w'
   go_simp
   with_reducible rfl
  rotate_left
  ·simp only [Act.put,List.setIfInBounds_toArray,List.set_cons_zero,List.set_cons_succ,i64_w,i32_w]
   rfl
  refine pure_ (i:=6) (N:=some 26) (v:=?_) (a':=?_) #[false,true,true,true,true,true,true,false,false,false] rfl rfl (by kernel_rfl) (fun _ _ _ h=>h) (Or.inl ⟨by rfl,?_⟩) ?_ ?_
  rotate_left
  ·intro w'
   go_simp
   with_reducible rfl
  rotate_left
  ·simp only [Act.put,List.setIfInBounds_toArray,List.set_cons_zero,List.set_cons_succ,i64_w,i32_w]
   rfl
  refine take_ (i:=0) (N:=some 20) (v:=?_) (a':=?_) #[true,true,true,true,true,true,true,false,false,false] rfl rfl (by kernel_rfl) (fun _ _ _ h=>h) (Or.inl ⟨by rfl,?_⟩) hHeld ?_ ?_
  rotate_left
  ·rintro w' ⟨s0,s1,s2,s3,s4,s5⟩
   go_simp
   with_reducible rfl
  rotate_left
  ·simp only [Act.put,List.setIfInBounds_toArray,List.set_cons_zero,List.set_cons_succ,i64_w,i32_w]
   rfl
  refine one_ (i:=7) (N:=some 27) #[true,true,true,true,true,true,true,true,false,false] rfl rfl (by kernel_rfl) (by decide) (fun K hK=>?_)
  refine goes_ Try.func109 (by kernel_rfl) rfl #[.slice (A6.map (·.add J)) (i - J) (c6 - J),.slice (A7.map (·.add J)) (i - J) (c7 - J)] (by rfl) rfl rfl (by (try simp only [List.map_toArray,List.map_cons,List.map_nil]);first | done | rfl) ?_
  with_reducible refine HC.out.mono ?_
  rintro e w5 ⟨v5,rfl,hS5,hb5⟩
  refine ⟨_,rfl,?_⟩
  have h45:=(hb5.block _ hlt4).trans H4.out
  obtain ⟨r0,r1,r2,r3,r4,r5⟩:=cells6 h45
  have h25:=(hb5.block _ hlt2).trans H2.out
  obtain ⟨f0,f1,f2,f3,f4,f5⟩:=frozen6 h25
  obtain ⟨y0,y1,y2,y3,y4,y5⟩:=cells6 h25
  have H25:=Lib.hid h25
  have HS5:=Lib.hid hS5
  have HB5:=Lib.hid hb5
  clear hS5 hb5 h45 h25
  refine hK.out _ _ ⟨r0,r1,r2,r3,r4,r5⟩ (fun hHeld=>?_)
  clear hK K
  refine norm_ (a':=?_) ?_ ?_
  rotate_left
  ·show Act.put _ (some 27) _ = _
   simp only [Act.put,List.setIfInBounds_toArray,List.set_cons_zero,List.set_cons_succ,i64_w,i32_w]
   rfl
  refine last_ (i:=8) (N:=none) #[true,true,true,true,true,true,true,true,true,false] rfl rfl (by kernel_rfl) (by decide) (fun K hK=>?_)
  refine skip_ (w1:=?_) (by rfl) rfl ?_ ?_
  rotate_left
  ·go_simp
   rfl
  refine hK.out _ _ ?_
  clear hK K
  refine pure_ (i:=9) (N:=some 3) (v:=?_) (a':=?_) #[true,true,true,true,true,true,true,true,true,true] rfl rfl (by kernel_rfl) (fun _ _ _ h=>h) (Or.inl ⟨by rfl,?_⟩) ?_ ?_
  rotate_left
  ·intro w'
   go_simp
   with_reducible rfl
  rotate_left
  ·simp only [Act.put,List.setIfInBounds_toArray,List.set_cons_zero,List.set_cons_succ,i64_w,i32_w]
   rfl
  refine done_ (by kernel_rfl) ?_
  have HE6:=Lib.hid (blk_set (blk_set (blk_set (blk_set (blk_set (blk_set H25.out 0 (.int .i64 x0)) 1 (.int .i64 x1)) 2 (.int .i64 x2)) 3 (.int .i64 x3)) 4 (.int .i64 x4)) 5 (.int .i64 x5))
  clear hHeld q0 q1 q2 q3 q4 q5 r0 r1 r2 r3 r4 r5 f0 f1 f2 f3 f4 f5 y0 y1 y2 y3 y4 y5 hJ1 hJ0 hlt4 hlt2 hkey hhas hatJ hown HC
  go_wp2_with fail
  refine bodyPost_ret (v:=.tuple #[.agg #[.int .i64 x0,.int .i64 x1,.int .i64 x2,.int .i64 x3,.int .i64 x4,.int .i64 x5],v5]) (results_cell_tmp (p:=2) (u:=3) (ty:=88) rfl _ _ (w.heap.size + 1) _ _ _ _ rfl HE6.out Try.underlying88 rfl (by kernel_rfl)) rfl ⟨v5,?_,?_,?_⟩
  ·rw [HX.out];rfl
  ·refine Kd.S_lower (Kd.S_mono (Kd.S_step (Kd.S_bound HS5.out) (fun k ho _=>?_)) (fun _ _=>trivial)) (show w.heap.size ≤ wr.drew.heap.size from HB.out.size)
   have hk:wr.heap.size ≤ k:=ho.2.1
   have hd:∀ o:Nat,k ≠ ({ block:=w.heap.size + 1,off:=o }:Addr).block:=fun o=>by show k ≠ w.heap.size + 1;omega
   rw [Below.heap_setCell _ _ _ _ (hd 5),Below.heap_setCell _ _ _ _ (hd 4),Below.heap_setCell _ _ _ _ (hd 3),Below.heap_setCell _ _ _ _ (hd 2),Below.heap_setCell _ _ _ _ (hd 1),Below.heap_setCell _ _ _ _ (hd 0)]
  have hg:w.heap.size ≤ w.heap.size + 1:=by omega
  have hB5:Below w.heap.size w w5:=(below_drew1 HB.out).trans (HB5.out.mono HB.out.size)
  exact (((((hB5.setCell hg _).setCell hg _).setCell hg _).setCell hg _).setCell hg _).setCell hg _
end Go.Proofs.Ythpahlkhiknofaa.H
namespace Go.Proofs.Ythpahlkhiknofaa.H
open Go Go.RowKit Go.Shelf Go.Proofs.Ythpahlkhiknofaa.G Go.Proofs.Ythpahlkhiknofaa.P Go.Proofs.YthpahlkhiknofaaW.PrintWords Go.Proofs.YthpahlkhiknofaaW.PrintLast Go.Proofs.YthpahlkhiknofaaW.PrintMore
theorem row_C {w:World} {g:Nat} {l:List Int} (hh:w.heap[g]? = some (rowO l)) {k:Nat} (hk:k ≤ l.length) (hl:l.length ≤ 9):Kd.C (Kd.int .i64) w (some ⟨g,0,none⟩) (l.take k).length (l.take k):=by
 refine Kd.C_of_reads (d:=0) ⟨rfl,by rw [List.length_take];omega,fun _=>⟨_,rfl,fun j hj=>?_⟩⟩
 rw [List.length_take] at hj
 rw [Addr.add_lit]
 refine (cell_of_row w g (0 + j) _ _ _ hh).trans ?_
 rw [List.getElem?_toArray,List.getElem?_map,Nat.zero_add,List.getElem?_eq_getElem (by omega),List.getD_eq_getElem?_getD,List.getElem?_take,if_pos (by omega),List.getElem?_eq_getElem (by omega)];rfl
theorem results_tmp3 {fn:Func} {t u x:Tmp} (h:fn.results = #[.tmp t,.tmp u,.tmp x]) (tmps:Array Value) (P:Program) (w:World) :
  (results fn tmps).run P w = .ok (.tuple #[tmps.getD t undef,tmps.getD u undef,tmps.getD x undef]) w:=by
 simp [results,h]
theorem slice88 (a:Addr) (n:Nat) (hn:n ≤ 5) (w:World):(Instr.sliceAt 88 (.pointer (some a)) none (some (.int .i64 ((n:Int) + 1))) none).run Try.prog w = .ok (.slice (some a) (n + 1) 6) w:=by
 have hl:Try.prog.arrayLen 88 = 6:=by kernel_rfl
 have he:Try.prog.elem 88 = 3:=by kernel_rfl
 have hu:Try.prog.underlying 88 = some (.array (Try.prog.arrayLen 88) (Try.prog.elem 88)):=by rw [hl,he];exact Try.underlying88
 rw [run_sliceAt_array_h w 88 a hu .i64 ((n:Int) + 1) (by omega) (by rw [hl];omega),hl,he,Try.sizeOf3]
 unfold slicedAt
 have e:((n:Int) + 1).toNat = n + 1:=by omega
 simp [Result.andThen,e,Addr.add]
set_option maxHeartbeats 8000000 in
set_option maxRecDepth 100000 in
theorem weights44_ok (s:ByteArray) (n:Nat) (hn:n ≤ 5) (xs:List Int) (hx:xs.length = 6) (hnew:card_newTotal.f s = some ((n:Int),s,true)) (h79:∀ w:World,Calls Try.prog 79 #[.agg #[.int .i64 (n:Int),.string s]] w fun e w'=>e = .returned (.tuple #[stV xs,.slice none 0 0]) ∧ Below w.heap.size w w') (w:World) :
  Calls Try.prog 44 #[.string s] w fun e w'=>∃ v:Value,e = .returned (.tuple #[v,.slice none 0 0,.int .i64 0]) ∧ Kd.R (Kd.int .i64) 3 w' w.heap.size (fun _=>True) v (xs.take (n + 1)) ∧ Below w.heap.size w w':=by
 obtain ⟨x0,x1,x2,x3,x4,x5,hx6⟩:=six xs hx
 subst hx6
 have HN:=Lib.hid (card_newTotal.calls s n s true w hnew)
 have H79:=Lib.hid h79
 clear h79
 go_enter Try.func44,Try.ntmps44
 go_wp2_with fail
 refine HN.out.mono ?_
 rintro e w1 ⟨rfl,hb1⟩
 have HB1:=Lib.hid hb1
 clear hb1
 go_wp2_with fail
 refine (H79.out _).mono ?_
 rintro e w3 ⟨rfl,hb3⟩
 have hg:=World.alloc_heap_new w1 (Obj.cells #[Value.int IntKind.i64 (n:Int),Value.string s] 81)
 have hb2:Below w.heap.size w (w1.alloc (Obj.cells #[Value.int IntKind.i64 (n:Int),Value.string s] 81)):=HB1.out.alloc HB1.out.size _
 have hg3:=(hb3.block _ (blk_lt hg)).trans hg
 have hc3:=cell_of_row _ _ 0 _ _ _ hg3
 have HB3:=Lib.hid (hb2.trans (hb3.mono hb2.size))
 have HG3:=Lib.hid hg3
 clear hb2 hb3 hg hg3
 have he:=Lib.run_eql_slice_nil (P:=Try.prog) w3 23 22 none 0 0 0 0 Try.underlying23
 unfold stV
 have hb5:Below w3.heap.size w3 (w3.alloc (Obj.cells #[Value.int IntKind.i64 x0,Value.int IntKind.i64 x1,Value.int IntKind.i64 x2,Value.int IntKind.i64 x3,Value.int IntKind.i64 x4,Value.int IntKind.i64 x5] 88)):=(Below.refl _ _).alloc (Nat.le_refl _) _
 have hc5:=(hb5.cell (World.block_lt_of_cell? _ _ hc3)).trans hc3
 have hw1:wrap64 ((n:Int) + 1) = ((n + 1:Nat):Int):=wrap_succ (by omega)
 have hr5:=World.alloc_heap_new w3 (rowO [x0,x1,x2,x3,x4,x5])
 have HC5:=Lib.hid (row_C hr5 (k:=n + 1) (by show n + 1 ≤ 6;omega) (by show 6 ≤ 9;decide))
 have HB5:=Lib.hid hb5
 clear hb5 hr5
 have hsl:=slice88 { block:=w3.heap.size,off:=0 } n hn
 go_wp2_with fail
 have hlen:(List.take (n + 1) [x0,x1,x2,x3,x4,x5]).length = n + 1:=by rw [List.length_take];show min (n + 1) 6 = n + 1;omega
 have HC:=clone80 { block:=w3.heap.size,off:=0 } 6 _ _ HC5.out (by rw [hlen];omega) (by rw [hlen];omega)
 rw [hlen] at HC
 refine HC.mono ?_
 rintro e w6 ⟨v6,rfl,ho6,hb6⟩
 have HO6:=Lib.hid ho6
 have HB6:=Lib.hid hb6
 clear ho6 hb6 HC
 go_wp2_with fail
 have hs3:w.heap.size ≤ w3.heap.size:=HB3.out.size
 have hs5:=HB5.out.size
 refine bodyPost_ret (v:=.tuple #[v6,.slice none 0 0,.int .i64 0]) (results_tmp3 (t:=2) (u:=3) (x:=4) rfl _ _ _) rfl ⟨v6,rfl,Kd.R_lower HO6.out (Nat.le_trans hs3 hs5),HB3.out.trans ((HB5.out.mono hs3).trans (HB6.out.mono (Nat.le_trans hs3 hs5)))⟩
set_option maxHeartbeats 8000000 in
set_option maxRecDepth 100000 in
theorem weights44_no (s:ByteArray) (n:Int) (hnew:card_newTotal.f s = some (n,s,false)) (w:World) :
  Calls Try.prog 44 #[.string s] w fun e w'=>e = .returned (.tuple #[.slice none 0 0,.slice none 0 0,.int .i64 2]) ∧ Below w.heap.size w w':=by
 have HN:=Lib.hid (card_newTotal.calls s n s false w hnew)
 go_enter Try.func44,Try.ntmps44
 go_wp2_with fail
 refine HN.out.mono ?_
 rintro e w1 ⟨rfl,hb1⟩
 have HB1:=Lib.hid hb1
 clear hb1
 go_wp2_with fail
 exact bodyPost_ret (v:=.tuple #[.slice none 0 0,.slice none 0 0,.int .i64 2]) (results_tmp3 (t:=2) (u:=3) (x:=4) rfl _ _ _) rfl ⟨rfl,HB1.out.alloc HB1.out.size _⟩
set_option maxHeartbeats 8000000 in
set_option maxRecDepth 100000 in
theorem weights44_bal (s:ByteArray) (n:Nat) (hn:n ≤ 5) (xs:List Int) (hx:xs.length = 6) (l0 l1:List Int) (hnew:card_newTotal.f s = some ((n:Int),s,true)) (h79:∀ w:World,Calls Try.prog 79 #[.agg #[.int .i64 (n:Int),.string s]] w fun e w'=>∃ v:Value,e = .returned (.tuple #[stV xs,v]) ∧ Kd.S (Kd.slice 3 (Kd.int .i64)) 22 w' w.heap.size (fun _=>True) v [l0,l1] ∧ Below w.heap.size w w') (w:World) :
  Calls Try.prog 44 #[.string s] w fun e w'=>∃ v:Value,e = .returned (.tuple #[.slice none 0 0,v,.int .i64 0]) ∧ Kd.S (Kd.slice 3 (Kd.int .i64)) 22 w' w.heap.size (fun _=>True) v [l0,l1] ∧ Below w.heap.size w w':=by
 obtain ⟨x0,x1,x2,x3,x4,x5,hx6⟩:=six xs hx
 subst hx6
 have HN:=Lib.hid (card_newTotal.calls s n s true w hnew)
 have H79:=Lib.hid h79
 clear h79
 go_enter Try.func44,Try.ntmps44
 go_wp2_with fail
 refine HN.out.mono ?_
 rintro e w1 ⟨rfl,hb1⟩
 have HB1:=Lib.hid hb1
 clear hb1
 go_wp2_with fail
 refine (H79.out _).mono ?_
 rintro e w3 ⟨v,rfl,hS,hb3⟩
 obtain ⟨ad,c,ev⟩:=Kd.R_slice1 (Kd.S_R hS) (Nat.zero_lt_succ _)
 subst ev
 have hb2:Below w.heap.size w (w1.alloc (Obj.cells #[Value.int IntKind.i64 (n:Int),Value.string s] 81)):=HB1.out.alloc HB1.out.size _
 have HB3:=Lib.hid (hb2.trans (hb3.mono hb2.size))
 have HS:=Lib.hid (Kd.S_lower hS hb2.size)
 clear hb2 hb3 hS
 have he:=Lib.run_eql_slice_nil (P:=Try.prog) w3 23 22 (some ad) ([l0,l1]:List (List Int)).length c 0 0 Try.underlying23
 unfold stV
 have hb5:Below w3.heap.size w3 (w3.alloc (Obj.cells #[Value.int IntKind.i64 x0,Value.int IntKind.i64 x1,Value.int IntKind.i64 x2,Value.int IntKind.i64 x3,Value.int IntKind.i64 x4,Value.int IntKind.i64 x5] 88)):=(Below.refl _ _).alloc (Nat.le_refl _) _
 have HB5:=Lib.hid hb5
 clear hb5
 go_wp2_with fail
 have hs3:w.heap.size ≤ w3.heap.size:=HB3.out.size
 exact bodyPost_ret (v:=.tuple #[.slice none 0 0,.slice (some ad) 2 c,.int .i64 0]) (results_tmp3 (t:=2) (u:=3) (x:=4) rfl _ _ _) rfl ⟨_,rfl,Kd.S_below HS.out HB5.out,HB3.out.trans (HB5.out.mono hs3)⟩
def EndsAt (n:Nat) (s:ByteArray) (xs:List Int):Prop:=∃ (st:Nat → List Int) (pt sg:Nat → Int) (K:Nat),K ≤ 2000 ∧ Wg n s st pt sg K ∧ wrL (st K) n s s.size 0 = (-1,0) ∧ (∀ j,j < K → st j ≠ st K) ∧ st K = xs
theorem ends_len {n:Nat} {s:ByteArray} {xs:List Int} (h:EndsAt n s xs):xs.length = 6:=by
 obtain ⟨st,pt,sg,K,_,hW,_,_,rfl⟩:=h
 exact hW.len K
theorem ends_calls {n:Nat} (hn:n ≤ 5) {s:ByteArray} (hsz:s.size ≤ 1000) {xs:List Int} (h:EndsAt n s xs) (w:World):Calls Try.prog 79 #[.agg #[.int .i64 (n:Int),.string s]] w fun e w'=>e = .returned (.tuple #[stV xs,.slice none 0 0]) ∧ Below w.heap.size w w':=by
 obtain ⟨st,pt,sg,K,hK,hW,he,hnw,rfl⟩:=h
 exact weigh79 n hn s hsz st pt sg K (by omega) hW he hnw w
def RepAt (n:Nat) (s:ByteArray) (r:List Int × List Int):Prop:=∃ (st:Nat → List Int) (pt sg:Nat → Int) (J K:Nat) (σ:Nat → Bool),K ≤ 2000 ∧ J < K ∧ Wg n s st pt sg K ∧ st J = st K ∧ (∀ i,i < K → pt i < 32) ∧ (∀ i,-1 ≤ sg i ∧ sg i ≤ 1) ∧ (∀ i,i < K → decide (0 < sg i) = σ (pt i).toNat) ∧ r = (outL (cntL ((seqI pt K).drop J) (K - J)) (gcN (cntL ((seqI pt K).drop J) (K - J)) 32) σ true 32,outL (cntL ((seqI pt K).drop J) (K - J)) (gcN (cntL ((seqI pt K).drop J) (K - J)) 32) σ false 32)
theorem rep_calls {n:Nat} (hn:n ≤ 5) {s:ByteArray} (hsz:s.size ≤ 1000) {r:List Int × List Int} (h:RepAt n s r):∃ xs:List Int,xs.length = 6 ∧ ∀ w:World,Calls Try.prog 79 #[.agg #[.int .i64 (n:Int),.string s]] w fun e w'=>∃ v:Value,e = .returned (.tuple #[stV xs,v]) ∧ Kd.S (Kd.slice 3 (Kd.int .i64)) 22 w' w.heap.size (fun _=>True) v [r.1,r.2] ∧ Below w.heap.size w w':=by
 obtain ⟨st,pt,sg,J,K,σ,hK,hJ,hW,hr,h1,h2,h3,rfl⟩:=h
 exact ⟨st K,hW.len K,fun w=>weigh79r n hn s hsz st pt sg J K (by omega) hJ hW hr h1 h2 σ h3 _ rfl w⟩
end Go.Proofs.Ythpahlkhiknofaa.H
namespace Go.Proofs.Ythpahlkhiknofaa.G
open Go Go.RowKit Go.Proofs.YthpahlkhiknofaaW.PrintWords Go.Proofs.YthpahlkhiknofaaW.PrintMore
open Classical in
noncomputable def card_Weights.f (a0:ByteArray):Option (List Int × List (List Int) × Int):=(card_newTotal.f a0).bind fun t=>if okT a0 t.1 t.2.1 t.2.2 then (if t.2.2 = true then (if h:∃ xs,H.EndsAt t.1.toNat a0 xs then some (h.choose.take (t.1.toNat + 1),[],0) else if h2:∃ r,H.RepAt t.1.toNat a0 r then some ([],[h2.choose.1,h2.choose.2],0) else none) else some ([],[],2)) else none
theorem card_Weights.calls (a0:ByteArray) (r1:List Int) (r2:List (List Int)) (r3:Int) (w:World) (h:card_Weights.f a0 = some (r1,r2,r3)) :
  Calls Try.prog 44 #[.string a0] w fun e w'=>∃ v0_ v1_:Value,e = .returned (.tuple #[v0_,v1_,.int .i64 r3]) ∧ Kd.R (Kd.int .i64) 3 w' w.heap.size (fun _=>True) v0_ r1 ∧ Kd.S (Kd.slice 3 (Kd.int .i64)) 22 w' w.heap.size (fun k_=>some k_ ≠ (v0_:Value).ownBlock) v1_ r2 ∧ Below w.heap.size w w':=by
 unfold card_Weights.f at h
 obtain ⟨t,ht,h⟩:=Option.bind_eq_some_iff.1 h
 obtain ⟨n,s,ok⟩:=t
 by_cases hf:okT a0 n s ok
 case neg =>
  rw [if_neg (show ¬ okT a0 (n,s,ok).1 (n,s,ok).2.1 (n,s,ok).2.2 from hf)] at h
  cases h
 rw [if_pos (show okT a0 (n,s,ok).1 (n,s,ok).2.1 (n,s,ok).2.2 from hf)] at h
 obtain ⟨rfl,h1,h2⟩:=hf
 cases ok with
 | false =>
  rw [if_neg (show ¬ (false = true) by decide)] at h
  have h3:=Option.some.inj h
  injection h3 with h4 h5
  injection h5 with h6 h7
  subst h4 h6 h7
  refine (H.weights44_no a0 n ht w).mono fun e w' hh=>?_
  exact ⟨_,_,hh.1,Kd.R_nil _ _ _ _ _,Kd.S_nil _ _ _ _ _,hh.2⟩
 | true =>
  rw [if_pos (show (true = true) from rfl)] at h
  obtain ⟨h2,h3⟩:=h2 rfl
  obtain ⟨m,rfl⟩:∃ m:Nat,n = (m:Int):=⟨n.toNat,by omega⟩
  simp only [Int.toNat_natCast] at h
  by_cases he:∃ xs,H.EndsAt m a0 xs
  ·rw [dif_pos he] at h
   have h3:=Option.some.inj h
   injection h3 with h4 h5
   injection h5 with h6 h7
   subst h4 h6 h7
   refine (H.weights44_ok a0 m (by omega) he.choose (H.ends_len he.choose_spec) ht (H.ends_calls (by omega) h1 he.choose_spec) w).mono fun e w' hh=>?_
   obtain ⟨v,e1,hr,hb⟩:=hh
   exact ⟨v,_,e1,hr,Kd.S_nil _ _ _ _ _,hb⟩
  rw [dif_neg he] at h
  by_cases hq:∃ r,H.RepAt m a0 r
  case neg =>
   rw [dif_neg hq] at h
   cases h
  rw [dif_pos hq] at h
  have h3:=Option.some.inj h
  injection h3 with h4 h5
  injection h5 with h6 h7
  subst h4 h6 h7
  obtain ⟨xs,hx,hc⟩:=H.rep_calls (n:=m) (by omega) h1 hq.choose_spec
  refine (H.weights44_bal a0 m (by omega) xs hx _ _ ht hc w).mono fun e w' hh=>?_
  obtain ⟨v,e1,hr,hb⟩:=hh
  exact ⟨_,v,e1,Kd.R_nil _ _ _ _ _,Kd.S_mono hr (fun k _=>by show some k ≠ none;simp),hb⟩
end Go.Proofs.Ythpahlkhiknofaa.G
set_option linter.unusedSectionVars false
namespace Go.Proofs.Ythpahlkhiknofaa.P
open Go Go.RowKit Go.Proofs.Ythpahlkhiknofaa.M Go.Proofs.Ythpahlkhiknofaa.G Go.Proofs.Ythpahlkhiknofaa.H
open Go.Proofs.YthpahlkhiknofaaW.PrintWords Go.Proofs.YthpahlkhiknofaaW.PrintMore
theorem jbI (p i:Nat):J.bI p i = bI p i:=rfl
theorem aV_le (n p v:Nat):-1 ≤ J.aV n p v ∧ J.aV n p v ≤ 1:=by
  unfold J.aV
  split
  · decide
  · split
    · rcases J.bI_cases p v with h | h <;> rw [h] <;> decide
    · decide
theorem run_bd (f:Nat → Bool) (n m:Nat):∀ (k v:Nat),-(k:Int) ≤ J.run f n m k v ∧ J.run f n m k v ≤ (k:Int)
  | 0,v=>by simp [J.run,J.z0]
  | k + 1,v=>by
    have ih:=run_bd f n m k v
    cases e:J.fwx f n m (J.run f n m k) with
    | none =>
      have:J.run f n m (k + 1) = J.run f n m k:=by rw [J.run,J.stp,e]
      rw [this];omega
    | some p =>
      rw [J.run_succ e]
      have h:=aV_le n p v
      show -_ ≤ J.run f n m k v + J.sgF f p * J.aV n p v ∧ J.run f n m k v + J.sgF f p * J.aV n p v ≤ _
      rcases J.sgF_cases f p with h2 | h2 <;> rw [h2] <;> omega
theorem run_hi (f:Nat → Bool) (n m:Nat):∀ k v,n < v → J.run f n m k v = 0
  | 0,_,_=>rfl
  | k + 1,v,hv=>by
    have ih:=run_hi f n m k v hv
    cases e:J.fwx f n m (J.run f n m k) with
    | none =>
      have:J.run f n m (k + 1) = J.run f n m k:=by rw [J.run,J.stp,e]
      rw [this];exact ih
    | some p =>
      rw [J.run_succ e]
      show J.run f n m k v + J.sgF f p * J.aV n p v = 0
      rw [ih]
      unfold J.aV
      rw [if_neg (by omega),if_neg (by omega)];omega
theorem upd_add (n p:Nat) (sg:Int) (x:Nat → Int):updF n p sg x = J.addS x sg (J.aV n p):=by
  funext v
  unfold updF J.addS J.aV
  by_cases h:v = n
  · rw [if_pos h,if_pos h];omega
  · rw [if_neg h,if_neg h]
    by_cases h2:v < n
    · rw [if_pos h2,if_pos h2];rfl
    · rw [if_neg h2,if_neg h2];omega
theorem wsum_dot {n:Nat} (hn:n ≤ 5) (x:Nat → Int) (p:Nat):-x n + wsum (tabI 6 x) p n = J.dot x (J.aV n p):=by
  have e0:rd (tabI 6 x) 0 = x 0:=tabI_rd (m:=6) (i:=0) (by decide)
  have e1:rd (tabI 6 x) 1 = x 1:=tabI_rd (m:=6) (i:=1) (by decide)
  have e2:rd (tabI 6 x) 2 = x 2:=tabI_rd (m:=6) (i:=2) (by decide)
  have e3:rd (tabI 6 x) 3 = x 3:=tabI_rd (m:=6) (i:=3) (by decide)
  have e4:rd (tabI 6 x) 4 = x 4:=tabI_rd (m:=6) (i:=4) (by decide)
  unfold J.dot J.aV
  rcases (by omega:n = 0 ∨ n = 1 ∨ n = 2 ∨ n = 3 ∨ n = 4 ∨ n = 5) with rfl | rfl | rfl | rfl | rfl | rfl <;> simp [wsum,e0,e1,e2,e3,e4,jbI] <;> omega
section
variable {c:ByteArray} {n:Nat} (hT:Tot c n)
include hT
theorem vl_dot {x:Nat → Int} (hb:∀ v,-1000000000 ≤ x v ∧ x v ≤ 1000000000) {p:Nat} (hp:p < c.size):vlS (tabI 6 x) n p = J.vals n x p:=by
  have hn:=hT.n5
  have hle:=hT.le
  have h6:rd (tabI 6 x) (n:Int) = x n:=tabI_rd (by omega)
  have hbn:=hb n
  have h60:p < 2 ^ 60:=Nat.lt_of_lt_of_le (show p < 64 by omega) (by decide)
  have hS:Sm 1000000000 (tabI 6 x):=fun i hi=>by rw [tabI_rd hi];exact hb i
  unfold vlS
  rw [h6,wrap_id (by omega) (by omega),val_eq (by decide) (by decide) hS h60 (by omega) n hn,wsum_dot hn]
  rfl
def fB (c:ByteArray) (p:Nat):Bool:=bt c (p:Int) == 49
theorem wr_fw {x:Nat → Int} (hb:∀ v,-1000000000 ≤ x v ∧ x v ≤ 1000000000):∀ d p,p + d = c.size → wrL (tabI 6 x) n c d p = match J.fw (fB c) (J.vals n x) d p with
    | none=>(-1,0)
    | some q=>((q:Int),J.sgF (fB c) q):=by
  intro d
  induction d with
  | zero=>intro p _;rfl
  | succ d ih =>
    intro p hp
    have hv:=vl_dot hT hb (p:=p) (by omega)
    have hb2:=hT.val p (by omega)
    rw [wrL,J.fw,ih (p + 1) (by omega)]
    by_cases h:bt c (p:Int) = 49
    · have hf:fB c p = true:=by unfold fB;rw [h];rfl
      have hlow:lowB (tabI 6 x) n c p = decide (J.vals n x p ≤ 0):=by unfold lowB;rw [show (bt c (p:Int) == 49) = true from hf,Bool.true_and,hv]
      have hhigh:highB (tabI 6 x) n c p = false:=by unfold highB;rw [show (bt c (p:Int) == 48) = false from by rw [h];rfl];rfl
      have hw:J.wrg (fB c) (J.vals n x) p = decide (J.vals n x p ≤ 0):=by unfold J.wrg;rw [if_pos hf]
      have hsg:J.sgF (fB c) p = 1:=by unfold J.sgF;rw [if_pos hf]
      rw [hlow,hhigh,hw]
      cases decide (J.vals n x p ≤ 0)
      · rfl
      · show ((p:Int),(1:Int)) = ((p:Int),J.sgF (fB c) p)
        rw [hsg]
    · have h48:bt c (p:Int) = 48:=by omega
      have hf:fB c p = false:=by unfold fB;rw [h48];rfl
      have hlow:lowB (tabI 6 x) n c p = false:=by unfold lowB;rw [show (bt c (p:Int) == 49) = false from hf];rfl
      have hhigh:highB (tabI 6 x) n c p = decide (0 ≤ J.vals n x p):=by unfold highB;rw [show (bt c (p:Int) == 48) = true from by rw [h48];rfl,Bool.true_and,hv]
      have hw:J.wrg (fB c) (J.vals n x) p = decide (0 ≤ J.vals n x p):=by unfold J.wrg;rw [if_neg (by rw [hf];decide)]
      have hsg:J.sgF (fB c) p = -1:=by unfold J.sgF;rw [if_neg (by rw [hf];decide)]
      rw [hlow,hhigh,hw]
      cases decide (0 ≤ J.vals n x p)
      · rfl
      · show ((p:Int),(-1:Int)) = ((p:Int),J.sgF (fB c) p)
        rw [hsg]
/-- The run as the program has it. -/
def stR (c:ByteArray) (n:Nat) (k:Nat):List Int:=tabI 6 (J.run (fB c) n c.size k)
def ptR (c:ByteArray) (n:Nat) (k:Nat):Int:=(((J.fwx (fB c) n c.size (J.run (fB c) n c.size k)).getD 0:Nat):Int)
def sgR (c:ByteArray) (n:Nat) (k:Nat):Int:=J.sgF (fB c) ((J.fwx (fB c) n c.size (J.run (fB c) n c.size k)).getD 0)
theorem run_big (k:Nat) (hk:k ≤ 1000000000) (v:Nat):-1000000000 ≤ J.run (fB c) n c.size k v ∧ J.run (fB c) n c.size k v ≤ 1000000000:=by
  have:=run_bd (fB c) n c.size k v
  omega
theorem st_wr (k:Nat) (hk:k ≤ 1000000000):wrL (stR c n k) n c c.size 0 = match J.fwx (fB c) n c.size (J.run (fB c) n c.size k) with
    | none=>(-1,0)
    | some q=>((q:Int),J.sgF (fB c) q):=wr_fw hT (run_big hT k hk) c.size 0 (by omega)
omit hT in
theorem tab_inj {n:Nat} (hn:n ≤ 5) {x y:Nat → Int} (hx:∀ v,n < v → x v = 0) (hy:∀ v,n < v → y v = 0) (h:tabI 6 x = tabI 6 y):x = y:=by
  funext v
  by_cases hv:v < 6
  · have:=congrArg (fun l=>rd l (v:Int)) h
    simp only [tabI_rd hv] at this
    exact this
  · rw [hx v (by omega),hy v (by omega)]
theorem wg_of {K:Nat} (hK:K ≤ 1000000000) (hnn:∀ j,j < K → J.fwx (fB c) n c.size (J.run (fB c) n c.size j) ≠ none) (hinj:∀ i j,i < j → j < K → J.run (fB c) n c.size i ≠ J.run (fB c) n c.size j):Wg n c (stR c n) (ptR c n) (sgR c n) K:=by
  have hn:=hT.n5
  have hle:=hT.le
  refine ⟨fun i=>tabI_len 6 _,fun i hi x hx=>?_,?_,fun i hi=>?_,fun i j hij hj he=>?_⟩
  · unfold stR tabI at hx
    obtain ⟨v,_,rfl⟩:=List.mem_map.1 hx
    have:=run_big hT i (by omega) v
    exact WalkArith.wf_i64 (by omega)
  · rfl
  · have hw:=st_wr hT i (by omega)
    cases e:J.fwx (fB c) n c.size (J.run (fB c) n c.size i) with
    | none=>exact absurd e (hnn i hi)
    | some q =>
      obtain ⟨_,hq,_⟩:=J.fw_some e
      rw [e] at hw
      unfold ptR sgR
      rw [e]
      refine ⟨hw,Int.natCast_nonneg _,?_⟩
      show stR c n (i + 1) = chV (stR c n i) (q:Int) (J.sgF (fB c) q) n
      unfold stR
      rw [J.run_succ e,chV_tab (run_big hT i (by omega)) (J.sgF_cases (fB c) q) (Nat.lt_of_lt_of_le (show q < 64 by omega) (by decide)) hn,upd_add]
  · exact hinj i j hij hj (tab_inj hn (run_hi _ _ _ _) (run_hi _ _ _ _) he)
theorem ends_at {K:Nat} (hK:K ≤ 2000) (hnn:∀ j,j < K → J.fwx (fB c) n c.size (J.run (fB c) n c.size j) ≠ none) (hinj:∀ i j,i < j → j < K → J.run (fB c) n c.size i ≠ J.run (fB c) n c.size j) (he:J.fwx (fB c) n c.size (J.run (fB c) n c.size K) = none):EndsAt n c (stR c n K):=by
  refine ⟨stR c n,ptR c n,sgR c n,K,hK,wg_of hT (by omega) hnn hinj,?_,fun j hj h=>?_,rfl⟩
  · rw [st_wr hT K (by omega),he]
  · have:=tab_inj hT.n5 (run_hi _ _ _ _) (run_hi _ _ _ _) h
    exact hnn j hj (by rw [this];exact he)
end
end Go.Proofs.Ythpahlkhiknofaa.P
set_option linter.unusedSectionVars false
namespace Go.Proofs.Ythpahlkhiknofaa.P
open Go Go.RowKit Go.Proofs.Ythpahlkhiknofaa.M Go.Proofs.Ythpahlkhiknofaa.G Go.Proofs.Ythpahlkhiknofaa.H
open Go.Proofs.YthpahlkhiknofaaW.PrintWords Go.Proofs.YthpahlkhiknofaaW.PrintMore
def sumQ (F:Nat → Int):Nat → Int
  | 0=>0
  | k + 1=>sumQ F k + F k
theorem sumQ_congr {F G:Nat → Int}:∀ k,(∀ q,q < k → F q = G q) → sumQ F k = sumQ G k
  | 0,_=>rfl
  | k + 1,h=>by rw [sumQ,sumQ,sumQ_congr k fun q hq=>h q (by omega),h k (by omega)]
theorem sumQ_add (F G:Nat → Int):∀ k,sumQ (fun q=>F q + G q) k = sumQ F k + sumQ G k
  | 0=>rfl
  | k + 1=>by rw [sumQ,sumQ,sumQ,sumQ_add F G k];omega
theorem sumQ_mul (a:Int) (F:Nat → Int):∀ k,sumQ (fun q=>F q * a) k = sumQ F k * a
  | 0=>by simp [sumQ]
  | k + 1=>by rw [sumQ,sumQ,sumQ_mul a F k,Int.add_mul]
theorem sumQ_one (p:Nat) (d:Int):∀ k,sumQ (fun q=>if q = p then d else 0) k = if p < k then d else 0
  | 0=>by simp [sumQ]
  | k + 1=>by
    rw [sumQ,sumQ_one p d k]
    by_cases h:p < k
    · rw [if_pos h,if_neg (by omega),if_pos (by omega)];omega
    · by_cases h2:k = p
      · rw [if_neg h,if_pos h2,if_pos (by omega)];omega
      · rw [if_neg h,if_neg h2,if_neg (by omega)];omega
theorem sumQ_nn {F:Nat → Int} (h:∀ q,0 ≤ F q):∀ k,0 ≤ sumQ F k
  | 0=>by simp [sumQ]
  | k + 1=>by rw [sumQ];have:=sumQ_nn h k;have:=h k;omega
theorem cnt_step (ps:List Int) (i:Nat) {p:Nat} (hp:rd ps (i:Int) = (p:Int)) {q:Nat} (hq:q < 32):rd (cntL ps (i + 1)) (q:Int) = rd (cntL ps i) (q:Int) + if q = p then 1 else 0:=by
  rw [rd_get (by rw [cntL_len];exact hq)]
  simp only [cntL,List.getElem_set,hp,Int.toNat_natCast]
  by_cases h:q = p
  · subst h;rw [if_pos rfl,if_pos rfl]
  · have e2:=rd_get (l:=cntL ps i) (i:=q) (by rw [cntL_len];exact hq)
    rw [if_neg (fun e=>h e.symm),if_neg h,e2,Int.add_zero]
theorem sum_step (ps:List Int) (i:Nat) {p:Nat} (hp:rd ps (i:Int) = (p:Int)) (h32:p < 32) (h:Nat → Int):sumQ (fun q=>rd (cntL ps (i + 1)) (q:Int) * h q) 32 = sumQ (fun q=>rd (cntL ps i) (q:Int) * h q) 32 + h p:=by
  have e:sumQ (fun q=>rd (cntL ps (i + 1)) (q:Int) * h q) 32 = sumQ (fun q=>rd (cntL ps i) (q:Int) * h q + if q = p then h p else 0) 32:=sumQ_congr 32 fun q hq=>by
    rw [cnt_step ps i hp hq,Int.add_mul]
    by_cases hqp:q = p
    · subst hqp;rw [if_pos rfl,if_pos rfl];omega
    · rw [if_neg hqp,if_neg hqp];omega
  rw [e,sumQ_add,sumQ_one,if_pos h32]
theorem sum_zero (ps:List Int) (h:Nat → Int):sumQ (fun q=>rd (cntL ps 0) (q:Int) * h q) 32 = 0:=by
  have e:sumQ (fun q=>rd (cntL ps 0) (q:Int) * h q) 32 = sumQ (fun _=>(0:Int) * 0) 32:=sumQ_congr 32 fun q hq=>by
    have:=cntL_bd ps 0 q
    rw [show rd (cntL ps 0) (q:Int) = 0 by omega];omega
  rw [e,sumQ_mul];omega
theorem gcN_dvd (cl:List Int):∀ k q,q < k → gcN cl k ∣ (rd cl (q:Int)).toNat
  | 0,q,h=>by omega
  | k + 1,q,h=>by
    rw [gcN]
    by_cases e:q = k
    · subst e;exact Nat.gcd_dvd_right _ _
    · exact Nat.dvd_trans (Nat.gcd_dvd_left _ _) (gcN_dvd cl k q (by omega))
theorem rep_mul (ps:List Int) (m:Nat) {q:Nat} (hq:q < 32):((repN (cntL ps m) (gcN (cntL ps m) 32) q:Nat):Int) * ((max (gcN (cntL ps m) 32) 1:Nat):Int) = rd (cntL ps m) (q:Int):=by
  have hb:=cntL_bd ps m q
  obtain ⟨t,ht⟩:=gcN_dvd (cntL ps m) 32 q hq
  unfold repN
  generalize hg:gcN (cntL ps m) 32 = g at *
  have e:(rd (cntL ps m) (q:Int)).toNat / max g 1 * max g 1 = (rd (cntL ps m) (q:Int)).toNat:=by
    by_cases h:g = 0
    · subst h;simp
    · rw [show max g 1 = g by omega,ht,Nat.mul_div_cancel_left _ (by omega),Nat.mul_comm]
  rw [← Int.natCast_mul,e,Int.toNat_of_nonneg hb.1]
theorem out_succ (cl:List Int) (g:Nat) (σ:Nat → Bool) (b:Bool) (k:Nat):outL cl g σ b (k + 1) = outL cl g σ b k ++ (if σ k = b then List.replicate (repN cl g k) (k:Int) else []):=by
  unfold outL
  rw [List.range_succ,List.flatMap_append];simp
theorem cnt_rep (v p:Nat):∀ m:Nat,cnt v (List.replicate m (p:Int)) = (m:Int) * bI p v
  | 0=>by simp [cnt]
  | m + 1=>by
    rw [List.replicate_succ,cnt,cnt_rep v p m,Int.toNat_natCast,Int.natCast_add,Int.add_mul];omega
theorem out_cnt (cl:List Int) (g:Nat) (σ:Nat → Bool) (v:Nat):∀ k,cnt v (outL cl g σ true k) - cnt v (outL cl g σ false k) = sumQ (fun q=>(repN cl g q:Int) * ((if σ q = true then 1 else -1) * bI q v)) k
  | 0=>by simp [outL,sumQ,cnt]
  | k + 1=>by
    have ih:=out_cnt cl g σ v k
    rw [out_succ,out_succ,cnt_append,cnt_append,sumQ]
    cases h:σ k
    · rw [if_neg (by decide),if_pos rfl,if_neg (by decide),cnt_rep,show cnt v [] = 0 from rfl,Int.neg_mul,Int.one_mul,Int.mul_neg];omega
    · rw [if_pos rfl,if_neg (by decide),if_pos rfl,cnt_rep,show cnt v [] = 0 from rfl,Int.one_mul];omega
theorem out_lens (cl:List Int) (g:Nat) (σ:Nat → Bool):∀ k,((outL cl g σ true k).length:Int) - (outL cl g σ false k).length = sumQ (fun q=>(repN cl g q:Int) * (if σ q = true then 1 else -1)) k ∧ ((outL cl g σ true k).length:Int) + (outL cl g σ false k).length = sumQ (fun q=>(repN cl g q:Int)) k
  | 0=>by simp [outL,sumQ]
  | k + 1=>by
    have ih:=out_lens cl g σ k
    rw [out_succ,out_succ,List.length_append,List.length_append,sumQ,sumQ]
    cases h:σ k
    · rw [if_neg (by decide),if_pos rfl,if_neg (by decide),List.length_replicate,List.length_nil];omega
    · rw [if_pos rfl,if_neg (by decide),if_pos rfl,List.length_replicate,List.length_nil];omega
theorem out_mem {cl:List Int} {g:Nat} {σ:Nat → Bool} {b:Bool} {k:Nat} {p:Int} (h:p ∈ outL cl g σ b k):∃ q:Nat,q < k ∧ p = (q:Int) ∧ σ q = b ∧ repN cl g q ≠ 0:=by
  unfold outL at h
  obtain ⟨q,hq,hp⟩:=List.mem_flatMap.1 h
  by_cases e:σ q = b
  · rw [if_pos e] at hp
    obtain ⟨h1,h2⟩:=List.mem_replicate.1 hp
    exact ⟨q,List.mem_range.1 hq,h2,e,h1⟩
  · rw [if_neg e] at hp;cases hp
theorem seq_rd {pt:Nat → Int} {J K j:Nat} (h:J + j < K):rd ((seqI pt K).drop J) (j:Int) = pt (J + j):=by
  rw [rd_get (by rw [List.length_drop,seqI_len];omega)]
  simp [seqI]
section
variable {c:ByteArray} {n:Nat} (hT:Tot c n)
include hT
theorem det {st:Nat → List Int} {pt sg:Nat → Int} {K:Nat} (hK:K ≤ 1000000000) (hW:Wg n c st pt sg K):∀ i,i ≤ K → st i = stR c n i ∧ ∀ j,j < i → ∃ q:Nat,J.fwx (fB c) n c.size (J.run (fB c) n c.size j) = some q ∧ pt j = (q:Int) ∧ sg j = J.sgF (fB c) q:=by
  intro i
  induction i with
  | zero=>exact fun _=>⟨hW.z.trans rfl,fun j hj=>by omega⟩
  | succ i ih =>
    intro hi
    have hn:=hT.n5
    have hle:=hT.le
    obtain ⟨e,ih⟩:=ih (by omega)
    obtain ⟨h1,h2,h3⟩:=hW.step i (by omega)
    have hw:=st_wr hT i (by omega)
    rw [e,hw] at h1
    cases eq:J.fwx (fB c) n c.size (J.run (fB c) n c.size i) with
    | none =>
      rw [eq] at h1
      have h4:(-1:Int) = pt i:=congrArg Prod.fst h1
      omega
    | some q =>
      rw [eq] at h1
      have hp:(q:Int) = pt i:=congrArg Prod.fst h1
      have hs:J.sgF (fB c) q = sg i:=congrArg Prod.snd h1
      obtain ⟨_,hq,_⟩:=J.fw_some eq
      refine ⟨?_,fun j hj=>?_⟩
      · rw [h3,e,← hp,← hs]
        unfold stR
        rw [J.run_succ eq,chV_tab (run_big hT i (by omega)) (J.sgF_cases (fB c) q) (Nat.lt_of_lt_of_le (show q < 64 by omega) (by decide)) hn,upd_add]
      · by_cases hji:j = i
        · subst hji;exact ⟨q,eq,hp.symm,hs.symm⟩
        · exact ih j (by omega)
/-- The method ends: with weights or with a balance. -/
theorem some_end:(∃ xs,EndsAt n c xs) ∨ ∃ r,RepAt n c r:=by
  have hn:=hT.n5
  have hle:=hT.le
  have hs:=hT.size
  let P:Nat → Prop:=fun K=>J.fwx (fB c) n c.size (J.run (fB c) n c.size K) = none ∨ ∃ I,I < K ∧ J.run (fB c) n c.size I = J.run (fB c) n c.size K
  have hP:∃ K,K ≤ 1990 ∧ P K:=by
    rcases J.ends (fB c) hn with ⟨K,hK,h⟩ | ⟨I,K,hJ,hK,h⟩
    · exact ⟨K,hK,.inl (by rw [hs];exact h)⟩
    · exact ⟨K,hK,.inr ⟨I,hJ,by rw [hs];exact h⟩⟩
  obtain ⟨K,hK,hPK,hmin⟩:∃ K,K ≤ 1990 ∧ P K ∧ ∀ j,j < K → ¬ P j:=by
    obtain ⟨K,hK,h⟩:=hP
    induction K using Nat.strongRecOn with
    | ind K ih =>
      by_cases hx:∃ j,j < K ∧ P j
      · obtain ⟨j,hj,hpj⟩:=hx
        exact ih j hj (by omega) hpj
      · exact ⟨K,hK,h,fun j hj hp=>hx ⟨j,hj,hp⟩⟩
  have hnn:∀ j,j < K → J.fwx (fB c) n c.size (J.run (fB c) n c.size j) ≠ none:=fun j hj h=>hmin j hj (.inl h)
  have hinj:∀ i j,i < j → j < K → J.run (fB c) n c.size i ≠ J.run (fB c) n c.size j:=fun i j hij hj h=>hmin j hj (.inr ⟨i,hij,h⟩)
  rcases hPK with h | ⟨I,hJ,h⟩
  · exact .inl ⟨_,ends_at hT (by omega) hnn hinj h⟩
  · refine .inr ⟨_,stR c n,ptR c n,sgR c n,I,K,fB c,by omega,hJ,wg_of hT (by omega) hnn hinj,?_,fun i hi=>?_,fun i=>?_,fun i hi=>?_,rfl⟩
    · unfold stR;rw [h]
    · cases e:J.fwx (fB c) n c.size (J.run (fB c) n c.size i) with
      | none=>exact absurd e (hnn i hi)
      | some q =>
        obtain ⟨_,hq,_⟩:=J.fw_some e
        unfold ptR
        rw [e]
        show (q:Int) < 32
        omega
    · unfold sgR
      rcases J.sgF_cases (fB c) ((J.fwx (fB c) n c.size (J.run (fB c) n c.size i)).getD 0) with e | e <;> rw [e] <;> decide
    · unfold sgR ptR
      rw [Int.toNat_natCast]
      unfold J.sgF
      cases fB c ((J.fwx (fB c) n c.size (J.run (fB c) n c.size i)).getD 0) <;> decide
theorem take_rd {l:List Int} {k i:Nat} (h:i < k):rd (l.take k) (i:Int) = rd l (i:Int):=by
  unfold rd
  rw [List.getD_eq_getElem?_getD,List.getD_eq_getElem?_getD,Int.toNat_natCast,List.getElem?_take,if_pos h]
theorem wsum_take {l:List Int} {k:Nat} (p:Nat):∀ i,i ≤ k → wsum (l.take k) p i = wsum l p i
  | 0,_=>rfl
  | i + 1,h=>by rw [wsum,wsum,wsum_take p i (by omega),take_rd hT (by omega)]
/-- The weights at the end do. -/
theorem ends_good {xs:List Int} (h:EndsAt n c xs):(xs.take (n + 1)).length = n + 1 ∧ bad60 (xs.take (n + 1)) = false ∧ allF (okR c (xs.take (n + 1)) n) c.size 0 = true:=by
  have hn:=hT.n5
  have hle:=hT.le
  have hlen:=ends_len h
  obtain ⟨st,pt,sg,K,hK,hW,hend,-,rfl⟩:=h
  have he:=(det hT (by omega) hW K (Nat.le_refl _)).1
  rw [he] at hlen hend ⊢
  have hw:=st_wr hT K (by omega)
  rw [hend] at hw
  have hnone:J.fwx (fB c) n c.size (J.run (fB c) n c.size K) = none:=by
    cases eq:J.fwx (fB c) n c.size (J.run (fB c) n c.size K) with
    | none=>rfl
    | some q =>
      rw [eq] at hw
      have h4:(-1:Int) = (q:Int):=congrArg Prod.fst hw
      omega
  refine ⟨by rw [List.length_take];omega,?_,?_⟩
  · unfold bad60
    rw [List.any_eq_false]
    intro x hx
    obtain ⟨v,_,rfl⟩:=List.mem_map.1 (show x ∈ (List.range 6).map (J.run (fB c) n c.size K) from List.mem_of_mem_take hx)
    have:=run_bd (fB c) n c.size K v
    simp;omega
  · refine (allF_iff _ _ _).2 fun p _ hp=>?_
    have hp':p < c.size:=by omega
    have hr:=(J.fw_none.1 hnone) p (by omega) (by omega)
    have hd:=wsum_dot hn (J.run (fB c) n c.size K) p
    have h2:rd (stR c n K) (n:Int) = J.run (fB c) n c.size K n:=tabI_rd (by omega)
    unfold okR
    rw [wsum_take hT p n (by omega),take_rd hT (by omega),h2]
    unfold J.wrg J.vals at hr
    rw [← hd] at hr
    show (decide (wsum (tabI 6 (J.run (fB c) n c.size K)) p n ≥ J.run (fB c) n c.size K n) == fB c p) = true
    by_cases hf:fB c p = true
    · rw [if_pos hf] at hr
      have:=of_decide_eq_false hr
      rw [hf,decide_eq_true (by omega)];rfl
    · rw [if_neg hf] at hr
      have:=of_decide_eq_false hr
      rw [show fB c p = false by simpa using hf,decide_eq_false (by omega)];rfl
/-- The lists at a state that comes again are a balance. -/
theorem rep_good {r:List Int × List Int} (h:RepAt n c r):isBal c n [r.1,r.2] = true:=by
  have hn:=hT.n5
  have hle:=hT.le
  obtain ⟨st,pt,sg,I,K,σ,hK,hJ,hW,hrep,hpt,-,hσ,rfl⟩:=h
  have hd:=det hT (by omega) hW
  obtain ⟨m,hm⟩:∃ m,K - I = m:=⟨_,rfl⟩
  rw [hm]
  obtain ⟨ps,hps⟩:∃ ps,(seqI pt K).drop I = ps:=⟨_,rfl⟩
  rw [hps]
  have hq:∀ i,i < m → ∃ q:Nat,J.fwx (fB c) n c.size (J.run (fB c) n c.size (I + i)) = some q ∧ rd ps (i:Int) = (q:Int) ∧ q < c.size ∧ σ q = fB c q:=fun i hi=>by
    obtain ⟨q,h1,h2,h3⟩:=(hd K (Nat.le_refl _)).2 (I + i) (by omega)
    obtain ⟨_,hq,_⟩:=J.fw_some h1
    refine ⟨q,h1,by rw [← hps,seq_rd (by omega),h2],by omega,?_⟩
    have h4:=hσ (I + i) (by omega)
    rw [h2,h3,Int.toNat_natCast] at h4
    rw [← h4]
    unfold J.sgF
    cases fB c q <;> decide
  have hJK:J.run (fB c) n c.size I = J.run (fB c) n c.size K:=tab_inj hn (run_hi _ _ _ _) (run_hi _ _ _ _) (by
    have e1:=(hd I (by omega)).1
    have e2:=(hd K (by omega)).1
    rw [hrep,e2] at e1
    exact e1.symm)
  have htel:∀ v i,i ≤ m → J.run (fB c) n c.size (I + i) v = J.run (fB c) n c.size I v + sumQ (fun q=>rd (cntL ps i) (q:Int) * (J.sgF (fB c) q * J.aV n q v)) 32:=fun v i=>by
    induction i with
    | zero=>intro _;rw [sum_zero];simp
    | succ i ih =>
      intro hi
      obtain ⟨q,h1,h2,h3,_⟩:=hq i (by omega)
      rw [sum_step ps i h2 (by omega),← Int.add_assoc,← ih (by omega),← Nat.add_assoc,J.run_succ h1]
      rfl
  have hsumone:∀ i,i ≤ m → sumQ (fun q=>rd (cntL ps i) (q:Int) * 1) 32 = (i:Int):=fun i=>by
    induction i with
    | zero=>intro _;rw [sum_zero];rfl
    | succ i ih =>
      intro hi
      obtain ⟨q,h1,h2,h3,_⟩:=hq i (by omega)
      rw [sum_step ps i h2 (by omega),ih (by omega)];omega
  obtain ⟨g,hg⟩:∃ g,gcN (cntL ps m) 32 = g:=⟨_,rfl⟩
  have hmul:∀ q,q < 32 → ((repN (cntL ps m) g q:Nat):Int) * ((max g 1:Nat):Int) = rd (cntL ps m) (q:Int):=fun q hq=>by
    rw [← hg];exact rep_mul ps m hq
  rw [hg]
  have hσq:∀ q,q < 32 → repN (cntL ps m) g q ≠ 0 → σ q = fB c q ∧ q < c.size:=fun q hq32 hne=>by
    have h1:=hmul q hq32
    have h0:=cntL_bd ps m q
    have hpos:0 < rd (cntL ps m) (q:Int):=by
      rw [← h1]
      exact Int.mul_pos (by omega) (by omega)
    obtain ⟨j,hj,e⟩:=cntL_pos ps m q hpos
    obtain ⟨q',_,h2,h3,h4⟩:=hq j hj
    rw [h2,Int.toNat_natCast] at e
    subst e
    exact ⟨h4,h3⟩
  have hz:∀ v,sumQ (fun q=>(repN (cntL ps m) g q:Int) * ((if σ q = true then 1 else -1) * J.aV n q v)) 32 = 0:=fun v=>by
    have h1:=htel v m (Nat.le_refl _)
    rw [show I + m = K by omega,← hJK] at h1
    have h2:sumQ (fun q=>((repN (cntL ps m) g q:Int) * ((if σ q = true then 1 else -1) * J.aV n q v)) * ((max g 1:Nat):Int)) 32 = sumQ (fun q=>rd (cntL ps m) (q:Int) * (J.sgF (fB c) q * J.aV n q v)) 32:=sumQ_congr 32 fun q hq32=>by
      rw [← hmul q hq32]
      by_cases hne:repN (cntL ps m) g q = 0
      · rw [hne];simp
      · have e:=(hσq q hq32 hne).1
        rw [e]
        unfold J.sgF
        rw [Int.mul_assoc,Int.mul_comm _ ((max g 1:Nat):Int),← Int.mul_assoc]
    rw [sumQ_mul] at h2
    have h3:sumQ (fun q=>(repN (cntL ps m) g q:Int) * ((if σ q = true then 1 else -1) * J.aV n q v)) 32 * ((max g 1:Nat):Int) = 0:=by omega
    rcases Int.mul_eq_zero.1 h3 with h | h
    · exact h
    · omega
  have hsum:sumQ (fun q=>(repN (cntL ps m) g q:Int)) 32 * ((max g 1:Nat):Int) = (m:Int):=by
    rw [← sumQ_mul,← hsumone m (Nat.le_refl _)]
    exact sumQ_congr 32 fun q hq32=>by rw [hmul q hq32];omega
  obtain ⟨hl1,hl2⟩:=out_lens (cntL ps m) g σ 32
  have hnn:0 ≤ sumQ (fun q=>(repN (cntL ps m) g q:Int)) 32:=sumQ_nn (fun q=>by omega) 32
  have hbig:sumQ (fun q=>(repN (cntL ps m) g q:Int)) 32 ≤ (m:Int):=by
    rw [← hsum]
    have:=Int.mul_le_mul_of_nonneg_left (show (1:Int) ≤ ((max g 1:Nat):Int) by omega) hnn
    omega
  have hpos:sumQ (fun q=>(repN (cntL ps m) g q:Int)) 32 ≠ 0:=fun e=>by
    rw [e] at hsum;omega
  have heq:sumQ (fun q=>(repN (cntL ps m) g q:Int) * (if σ q = true then 1 else -1)) 32 = 0:=by
    have h1:=hz n
    have h2:sumQ (fun q=>(repN (cntL ps m) g q:Int) * ((if σ q = true then 1 else -1) * J.aV n q n)) 32 = sumQ (fun q=>((repN (cntL ps m) g q:Int) * (if σ q = true then 1 else -1)) * (-1)) 32:=sumQ_congr 32 fun q _=>by
      unfold J.aV
      rw [if_pos rfl,Int.mul_assoc]
    rw [h1,sumQ_mul] at h2
    omega
  have hlens:lensB [outL (cntL ps m) g σ true 32,outL (cntL ps m) g σ false 32]:=by
    refine ⟨rfl,?_,?_,?_⟩
    · show (outL (cntL ps m) g σ true 32).length = (outL (cntL ps m) g σ false 32).length
      omega
    · show 1 ≤ (outL (cntL ps m) g σ true 32).length
      omega
    · show (outL (cntL ps m) g σ true 32).length ≤ 1000
      omega
  unfold isBal
  rw [decide_eq_true hlens,Bool.true_and]
  have a0:(outL (cntL ps m) g σ true 32).all (okPt c 0) = true:=List.all_eq_true.2 fun p hp=>by
    obtain ⟨q,h1,rfl,h2,h3⟩:=out_mem hp
    obtain ⟨h4,h5⟩:=hσq q h1 h3
    rw [h2] at h4
    have h49:bt c (q:Int) = 49:=by
      have:(bt c (q:Int) == 49) = true:=h4.symm
      simpa using this
    exact decide_eq_true ⟨⟨by omega,by omega⟩,by rw [h49];rfl⟩
  have a1:(outL (cntL ps m) g σ false 32).all (okPt c 1) = true:=List.all_eq_true.2 fun p hp=>by
    obtain ⟨q,h1,rfl,h2,h3⟩:=out_mem hp
    obtain ⟨h4,h5⟩:=hσq q h1 h3
    rw [h2] at h4
    have h48:bt c (q:Int) = 48:=by
      have:(bt c (q:Int) == 49) = false:=h4.symm
      have hne:bt c (q:Int) ≠ 49:=by simpa using this
      have:=hT.val q h5
      omega
    exact decide_eq_true ⟨⟨by omega,by omega⟩,by rw [h48];rfl⟩
  show ((outL (cntL ps m) g σ true 32).all (okPt c 0) && ((outL (cntL ps m) g σ false 32).all (okPt c 1) && sameB n (outL (cntL ps m) g σ true 32) (outL (cntL ps m) g σ false 32))) = true
  rw [a0,a1,Bool.true_and,Bool.true_and]
  unfold sameB
  refine (allF_iff _ _ _).2 fun v _ hv=>decide_eq_true ?_
  rw [out_cnt]
  have h1:=hz v
  rw [← h1]
  refine sumQ_congr 32 fun q _=>?_
  have e:J.aV n q v = bI q v:=by unfold J.aV;rw [if_neg (by omega),if_pos (by omega),jbI]
  rw [e]
end
end Go.Proofs.Ythpahlkhiknofaa.P
namespace Go.Proofs.Ythpahlkhiknofaa.G
open Go.RowKit Go.Proofs.YthpahlkhiknofaaW.PrintWords Go.Proofs.YthpahlkhiknofaaW.PrintLast Go.Proofs.YthpahlkhiknofaaW.PrintMore
set_option maxHeartbeats 8000000
set_option maxRecDepth 100000
attribute [local go_sem] max2_int min2_int max_two min_two max_three min_three max_four min_four   -- for this text's walks alone
def numnahlaw01_lists.l0:Nat → List (List Int) → List (List Int) → Int → Option ((List (List Int)))
 | 0,_,_,_=>none
 | k + 1,x0,x3,x4=>if x4 < (x0.length:Int) then (if x4 < 3 then (if 0 ≤ x4 then ((numnahlaw01_list.f (rd_L3 x0 x4)).bind fun t103=>(if x3.length < 5864062014805 then (numnahlaw01_lists.l0 k x0 (x3 ++ [t103]) (wrap64 (x4 + 1))) else (none))) else (none)) else (some x3)) else (some x3)
def numnahlaw01_lists.f (k:Nat) (l0:List (List Int)):Option ((List (List Int))):=numnahlaw01_lists.l0 k l0 ([]:List (List Int)) 0
theorem numnahlaw01_lists.mono_l:∀ k,(∀ y0 y1 y2,LeO (numnahlaw01_lists.l0 k y0 y1 y2) (numnahlaw01_lists.l0 (k + 1) y0 y1 y2))
 | 0=>fun _ _ _ r h=>by simp [numnahlaw01_lists.l0] at h
 | k + 1=>by
  have ih0:=numnahlaw01_lists.mono_l k
  intro y0 y1 y2
  unfold numnahlaw01_lists.l0
  repeat' first
  | (with_reducible exact ih0 _ _ _)
  | (with_reducible exact LeO.refl _)
  | (with_reducible exact LeO.none _)
  | (with_reducible refine LeO.ite ?_ ?_)
  | (with_reducible refine LeO.bind ?_ (fun _=>?_))
  | exact ih0 _ _ _
  | exact LeO.none _
  | refine LeO.ite ?_ ?_
  | refine LeO.bind ?_ (fun _=>?_)
theorem numnahlaw01_lists.mono:∀ a0 k,LeO (numnahlaw01_lists.f k a0) (numnahlaw01_lists.f (k + 1) a0):=by
 intro a0 k
 have ih0:=numnahlaw01_lists.mono_l k
 unfold numnahlaw01_lists.f
 repeat' first
   | (with_reducible exact ih0 _ _ _)
   | (with_reducible exact LeO.refl _)
   | (with_reducible exact LeO.none _)
   | (with_reducible refine LeO.ite ?_ ?_)
   | (with_reducible refine LeO.bind ?_ (fun _=>?_))
   | exact ih0 _ _ _
   | exact LeO.none _
   | refine LeO.ite ?_ ?_
   | refine LeO.bind ?_ (fun _=>?_)
theorem numnahlaw01_lists.calls (k:Nat) (A0:Option Addr) (c0:Nat) (l0:List (List Int)) (r:List (List Int)) (w:World) (hr0:Kd.C (Kd.slice 3 (Kd.int .i64)) w A0 l0.length l0) (hc0:l0.length ≤ c0) (h:numnahlaw01_lists.f k l0 = some r) :
  Calls Try.prog 18 #[.slice A0 l0.length c0] w fun e w'=>∃ v0_:Value,e = .returned (v0_) ∧ Kd.S (Kd.slice 3 (Kd.int .i64)) 22 w' w.heap.size (fun _=>True) v0_ r ∧ Below w.heap.size w w':=by
 have HR0:=Aside0.mk hr0
 have HC0:=Aside0.mk hc0
 clear hr0 hc0
 have HB:=Aside0.mk (Below.refl w.heap.size w)
 have H:(numnahlaw01_lists.l0 k l0 ([]:List (List Int)) 0) = some r:=h
 clear h
 have H':=Aside0.mk H
 clear H
 go_enter Try.func18,Try.ntmps18
 go_wp2
 go_loopg [3,4] k (fun kq v3 v4 w'=>∃ (x3_1:List (List Int)) (x4_1:Int),v4 = .int .i64 x4_1 ∧ Aside0 (numnahlaw01_lists.l0 kq l0 x3_1 x4_1 = some r) ∧ Aside0 (kq ≤ k) ∧ Aside0 (Kd.S (Kd.slice 3 (Kd.int .i64)) 22 w' w.heap.size (fun _=>True) v3 x3_1) ∧ Aside0 (Below w.heap.size w w'))
 case atStart=>exact ⟨(([]:List (List Int))),(0),(by first | rfl | (simp;done) | (simp [*];done)),H',⟨Nat.le_refl _⟩,⟨by first | exact Kd.S_nil _ _ _ _ _ | exact Kd.N_nil _ _ _ _ _ | exact Kd.V_nil _ _ _ _ _ | exact Kd.Q_nil _ _ _ _ _ | exact Kd.R_nil _ _ _ _ _⟩,⟨by repeat (first | (with_reducible first | exact HB.out | apply below_alloc | apply pw_below_drewN | apply below_drew1) | exact HB.out)⟩⟩
 case round =>
  clear H'
  try clear c1
  obtain ⟨x3_1,x4_1,rfl,HA,HK1,HO_3,HB⟩:=hrel
  cases gk with
  | zero=>exact absurd HA.out (by simp [numnahlaw01_lists.l0])
  | succ k1 =>
   have H:=HA.out
   clear HA
   simp only [numnahlaw01_lists.l0] at H
   by_cases c2:x4_1 < (l0.length:Int)
   case neg =>
    rw [if_neg c2] at H
    have c2b0:decide (x4_1 < (l0.length:Int)) = false:=decide_eq_false c2
    clear c2
    obtain rfl:=Option.some.inj H
    go_wp2
    go_ret
    exact ⟨_,by first | rfl | (simp [errW_none,errW_some] <;> rfl) | (simp [*,errW_none,errW_some] <;> rfl),by (with_reducible repeat (first | apply Kd.S_alloc | apply Kd.S_drewN | apply Kd.S_drew));exact HO_3.out,by repeat (first | (with_reducible first | exact HB.out | apply below_alloc | apply pw_below_drewN | apply below_drew1) | exact HB.out)⟩
   rw [if_pos c2] at H
   have c2b0:decide (x4_1 < (l0.length:Int)) = true:=decide_eq_true c2
   clear c2
   by_cases c3:x4_1 < 3
   case neg =>
    rw [if_neg c3] at H
    have c3b0:decide (x4_1 < 3) = false:=decide_eq_false c3
    clear c3
    obtain rfl:=Option.some.inj H
    go_wp2
    go_ret
    exact ⟨_,by first | rfl | (simp [errW_none,errW_some] <;> rfl) | (simp [*,errW_none,errW_some] <;> rfl),by (with_reducible repeat (first | apply Kd.S_alloc | apply Kd.S_drewN | apply Kd.S_drew));exact HO_3.out,by repeat (first | (with_reducible first | exact HB.out | apply below_alloc | apply pw_below_drewN | apply below_drew1) | exact HB.out)⟩
   rw [if_pos c3] at H
   have c3b0:decide (x4_1 < 3) = true:=decide_eq_true c3
   clear c3
   by_cases c4:0 ≤ x4_1
   case neg =>
    rw [if_neg c4] at H
    exact absurd H (by simp)
   rw [if_pos c4] at H
   have c4b0:decide (0 ≤ x4_1) = true:=decide_eq_true c4
   clear c4
   replace H:=Option.bind_eq_some_iff.mp H
   obtain ⟨t103,A50,H⟩:=H
   replace H:(if x3_1.length < 5864062014805 then (numnahlaw01_lists.l0 k1 l0 (x3_1 ++ [t103]) (wrap64 (x4_1 + 1))) else (none)) = some r:=H
   have A5:=Aside0.mk A50
   clear A50
   by_cases c6:x3_1.length < 5864062014805
   case neg =>
    rw [if_neg c6] at H
    exact absurd H (by simp)
   rw [if_pos c6] at H
   have LMc6:=Aside0.mk c6
   clear c6
   obtain ⟨y106,hy106⟩:∃ y_:List (List Int),y_ = (x3_1 ++ [t103]):=⟨_,rfl⟩
   replace H:(numnahlaw01_lists.l0 k1 l0 y106 (wrap64 (x4_1 + 1))) = some r:=by first | (rw [hy106];with_reducible exact H) | (have H2_:=(Option.bind_some _ _).symm.trans H;rw [hy106];with_reducible exact H2_) | (have H2_:=(Option.bind_some _ _).symm.trans H;with_reducible exact H2_) | with_reducible exact H | (rw [hy106];exact H) | exact H
   have Ny106:=Aside0.mk hy106
   clear hy106
   have H':=Aside0.mk H
   clear H
   have p102:0 ≤ (x4_1:Int):=of_decide_eq_true (by first | (with_reducible assumption) | assumption)
   have q102:x4_1 < (l0.length:Int):=of_decide_eq_true (by first | (with_reducible assumption) | assumption)
   obtain ⟨ad102,A102_0,c102_0,e102,hx102_0,hl102_0,hi102_0⟩:=at_L3 HR0.out x4_1 p102 q102
   cases e102
   replace hx102_0:=(HB.out.cell (World.block_lt_of_cell? w _ hx102_0)).trans hx102_0
   have HR102_0:=Aside0.mk hi102_0
   have HC102_0:=Aside0.mk hl102_0
   clear hi102_0 hl102_0
   replace p102:=eq_true p102
   replace q102:=eq_true q102
   go_wp2_with (first | ((with_reducible refine gate_callee (f:=17) rfl ?_);refine goesL_ (some 20) rfl rfl Try.func17 (by kernel_rfl) rfl #[.slice A102_0 (rd_L3 l0 x4_1).length c102_0] rfl (by (try simp only [List.map_toArray,List.map_cons,List.map_nil]);first | done | rfl | (simp only [List.length_drop,List.length_take];rfl)) ?_;(with_reducible refine (numnahlaw01_list.calls _ _ (rd_L3 l0 x4_1) t103 _ ?side1 ?side2 A5.out).mono ?_);(case side1=>repeat (first | exact (Kd.C_below HR102_0.out HB.out) | (with_reducible refine Kd.C_alloc ?_ _) | (with_reducible refine Kd.C_drewN ?_ _) | (with_reducible refine Kd.C_drew ?_)));(case side2=>exact HC102_0.out);rintro e w7 ⟨v104,rfl,ho0,hb⟩;refine ⟨_,rfl,?_⟩;have n0_:=Aside0.mk (Kd.S_elder' (by (with_reducible repeat (first | apply Kd.S_alloc | apply Kd.S_drewN | apply Kd.S_drew));exact HO_3.out) (Kd.R_base ho0) hb);have n1_:=Aside0.mk (Kd.R_lower ho0 (below_size (by repeat (first | (with_reducible first | exact HB.out | apply below_alloc | apply pw_below_drewN | apply below_drew1) | exact HB.out))));have n2_:=Aside0.mk (below_step (by repeat (first | (with_reducible first | exact HB.out | apply below_alloc | apply pw_below_drewN | apply below_drew1) | exact HB.out)) hb);clear HO_3;clear HB;have HO_3:=n0_;have HO105:=n1_;have HB:=n2_;clear n0_ n1_ n2_;(try clear hb);(try clear ho0);obtain ⟨Ao9,co9,eo9⟩:=Kd.R_slice HO105.out;subst eo9) | ((with_reducible refine gate_builtin (b:=.append) (xs:=#[.tmp 15,.tmp 21]) rfl ?_);at_builtin;refine Kd.S_append (Kd.slice 3 (Kd.int .i64)) (w0:=w) w.heap.size rfl (.tmp 15) (.tmp 21) 23 22 (.slice none 0 0) 24 rfl Try.underlying23 info22 rfl (by decide) (by omega) u3 x3_1 t103 [.slice Ao9 t103.length co9] (fun _=>True) (fun k_=>some k_ = (.slice Ao9 t103.length co9:Value).ownBlock) rfl rfl ?aP (fun k_ hk_=>((Kd.R_mono (ok':=fun k_=>((fun _=>True)) k_ ∧ some k_ ≠ (u3:Value).ownBlock) (Kd.R_apart' (HO105.out) (Kd.S_typed HO_3.out) (by decide)) (fun k_ hk=>⟨trivial,hk.2⟩))).1 k_ hk_.symm) ?aF ?aO ?aB ?aS ?aL ?_;(case aP=>exact Kd.M_row (Kd.R_mono (Kd.R_tight rfl (Kd.R_mono (ok':=fun k_=>((fun _=>True)) k_ ∧ some k_ ≠ (u3:Value).ownBlock) (Kd.R_apart' (HO105.out) (Kd.S_typed HO_3.out) (by decide)) (fun k_ hk=>⟨trivial,hk.2⟩))) (fun _ h_=>h_)));(case aB=>exact (by repeat (first | (with_reducible first | exact HB.out | apply below_alloc | apply pw_below_drewN | apply below_drew1) | exact HB.out)));(case aF=>exact (fun _ _=>trivial));(case aO=>exact (by (with_reducible repeat (first | apply Kd.S_alloc | apply Kd.S_drewN | apply Kd.S_drew));exact Kd.S_mono HO_3.out (fun k_ hk=>⟨trivial,fun e_=>hk.2 e_⟩)));(case aS=>exact (below_size (by repeat (first | (with_reducible first | exact HB.out | apply below_alloc | apply pw_below_drewN | apply below_drew1) | exact HB.out))));(case aL=>have:=LMc6.out;omega);intro v107 w8 ho hb hg hat;rw [← Ny106.out] at ho;have n0_:=Aside0.mk (hb);have n1_:=Aside0.mk (ho);clear HB;clear HO_3;clear HO105;have HB:=n0_;have HO108:=n1_;clear n0_ n1_;clear ho hb hg hat))
   go_roundg k1
   case measure=>have:=HK1.out;omega
   case rel=>exact ⟨(y106),(wrap64 (x4_1 + 1)),(by first | rfl | (simp;done) | (simp [*];done)),H',⟨by have:=HK1.out;omega⟩,⟨by (with_reducible repeat (first | apply Kd.S_alloc | apply Kd.S_drewN | apply Kd.S_drew));exact HO108.out⟩,⟨by repeat (first | (with_reducible first | exact HB.out | apply below_alloc | apply pw_below_drewN | apply below_drew1) | exact HB.out)⟩⟩
end Go.Proofs.Ythpahlkhiknofaa.G
set_option linter.unusedSectionVars false
namespace Go.Proofs.Ythpahlkhiknofaa.P
open Go Go.RowKit Go.Proofs.Ythpahlkhiknofaa.M Go.Proofs.Ythpahlkhiknofaa.G Go.Proofs.Ythpahlkhiknofaa.H
open Go.Proofs.YthpahlkhiknofaaW.PrintWords Go.Proofs.YthpahlkhiknofaaW.PrintMore
theorem lists_l0 (l:List (List Int)):∀ d i (x:List (List Int)),i + d = 3 → x.length = i → ∃ z:List (List Int),z.length ≤ 3 ∧ Ev (fun k=>numnahlaw01_lists.l0 k l x (i:Int)) z:=by
 intro d
 induction d with
 | zero =>
  intro i x hi hx
  refine ⟨x,by omega,Ev.step (f:=fun _=>some x) (fun k=>?_) (Ev.now _)⟩
  rw [numnahlaw01_lists.l0]
  by_cases h:(i:Int) < (l.length:Int)
  ·rw [if_pos h,if_neg (by omega)]
  ·rw [if_neg h]
 | succ d ih =>
  intro i x hi hx
  by_cases h:(i:Int) < (l.length:Int)
  ·obtain ⟨z,hz,e⟩:=ih (i + 1) (x ++ [(rd_L3 l (i:Int)).take 1001]) (by omega) (by simp [hx])
   refine ⟨z,hz,Ev.step (fun k=>?_) e⟩
   rw [numnahlaw01_lists.l0,if_pos h,if_pos (by omega),if_pos (by omega),list_f,Option.bind_some,if_pos (by omega),wrap_succ (by omega)]
  ·refine ⟨x,by omega,Ev.step (f:=fun _=>some x) (fun k=>?_) (Ev.now _)⟩
   rw [numnahlaw01_lists.l0,if_neg h]
theorem lists_ev (l:List (List Int)):∃ z:List (List Int),z.length ≤ 3 ∧ Ev (fun k=>numnahlaw01_lists.f k l) z:=lists_l0 l 3 0 [] (by omega) rfl
theorem fitL_of {α:Type} {l:List α} (h:l.length ≤ 100000):fitL l:=by unfold fitL;omega
theorem realize_f {c:ByteArray} (hc:c.size ≤ 40) {l:List Int} (hl:l.length ≤ 1001):card_Realize.f c l = some (if totB c = true then (if l.length = fnN c + 1 ∧ bad60 l = false then (if allF (okR c l (fnN c)) c.size 0 = true then 0 else 10) else 2) else 2):=by
 obtain ⟨m,hm,e⟩:=newT hc
 unfold card_Realize.f
 rw [e,Option.bind_some]
 by_cases h:totB c = true
 ·have hT:=tot_of hc h
  have:=hm h
  subst this
  have h5:=hT.n5
  rw [if_pos ⟨⟨rfl,by show c.size ≤ 1000;omega,fun _=>⟨by show (0:Int) ≤ (fnN c:Int);omega,by show (fnN c:Int) ≤ 5;omega⟩⟩,fitL_of (by omega)⟩,if_pos h]
  congr 1
  show rzV c l ((fnN c:Int)).toNat (totB c) = _
  rw [Int.toNat_natCast,h]
  unfold rzV
  by_cases hg:l.length = fnN c + 1 ∧ bad60 l = false
  ·have hs:=bad_sm hg.2
   have hp:=pad_rd (l:=l) (by omega)
   rw [if_pos ⟨rfl,hg⟩,if_pos hg,rzL_eq h5 hc (B:=1000000) (by decide) (by decide) (fun i hi=>by rw [hp i];exact hs i hi) c.size 0 (by omega)]
   have:allF (okR c (padL l) (fnN c)) c.size 0 = allF (okR c l (fnN c)) c.size 0:=allF_congr fun p _ _=>by
    unfold okR
    rw [wsum_congr hp,hp]
   rw [this]
  ·rw [if_neg (fun h=>hg h.2),if_neg hg]
 ·have h':totB c = false:=by simpa using h
  rw [if_pos ⟨⟨rfl,by show c.size ≤ 1000;omega,fun h2=>absurd h2 h⟩,fitL_of (by omega)⟩,if_neg h]
  congr 1
  show rzV c l m.toNat (totB c) = 2
  rw [h']
  unfold rzV
  rw [if_neg (fun h=>by cases h.1)]
theorem balance_f {c:ByteArray} (hc:c.size ≤ 40) {ls:List (List Int)} (hl:ls.length ≤ 3):card_Balance.f c ls = some (if totB c = true then (if isBal c (fnN c) ls = true then 0 else 10) else 2):=by
 obtain ⟨m,hm,e⟩:=newT hc
 unfold card_Balance.f
 rw [e,Option.bind_some]
 by_cases h:totB c = true
 ·have hT:=tot_of hc h
  have:=hm h
  subst this
  have h5:=hT.n5
  rw [if_pos ⟨⟨rfl,by show c.size ≤ 1000;omega,fun _=>⟨by show (0:Int) ≤ (fnN c:Int);omega,by show (fnN c:Int) ≤ 5;omega⟩⟩,fitL_of (by omega)⟩,if_pos h]
  congr 1
  show balV c ls ((fnN c:Int)).toNat (totB c) = _
  rw [Int.toNat_natCast,h,balV_eq hc h5]
 ·have h':totB c = false:=by simpa using h
  rw [if_pos ⟨⟨rfl,by show c.size ≤ 1000;omega,fun h2=>absurd h2 h⟩,fitL_of (by omega)⟩,if_neg h]
  congr 1
  show balV c ls m.toNat (totB c) = 2
  rw [h'];rfl
end Go.Proofs.Ythpahlkhiknofaa.P
set_option linter.unusedSectionVars false
namespace Go.Proofs.Ythpahlkhiknofaa.P
open Go Go.RowKit Go.Proofs.Ythpahlkhiknofaa.M Go.Proofs.Ythpahlkhiknofaa.G Go.Proofs.Ythpahlkhiknofaa.H
open Go.Proofs.YthpahlkhiknofaaW.PrintWords Go.Proofs.YthpahlkhiknofaaW.PrintMore
def GoodW (c:ByteArray) (ws:List Int):Prop:=ws.length = fnN c + 1 ∧ bad60 ws = false ∧ allF (okR c ws (fnN c)) c.size 0 = true
theorem weights_yes {c:ByteArray} (hc:c.size ≤ 40) (h:totB c = true):(∃ ws,card_Weights.f c = some (ws,[],0) ∧ GoodW c ws) ∨ ∃ bs,card_Weights.f c = some ([],bs,0) ∧ bs.length = 2 ∧ isBal c (fnN c) bs = true:=by
 obtain ⟨m,hm,e⟩:=newT hc
 have hT:=tot_of hc h
 have h5:=hT.n5
 have:=hm h
 subst this
 have hok:okT c (fnN c:Int) c (totB c):=⟨rfl,by omega,fun _=>⟨by omega,by omega⟩⟩
 unfold card_Weights.f
 rw [e,Option.bind_some,if_pos hok,if_pos h]
 simp only [Int.toNat_natCast]
 by_cases he:∃ xs,EndsAt (fnN c) c xs
 ·rw [dif_pos he]
  exact .inl ⟨_,rfl,ends_good hT he.choose_spec⟩
 ·rw [dif_neg he]
  have hr:∃ r,RepAt (fnN c) c r:=(some_end hT).resolve_left he
  rw [dif_pos hr]
  exact .inr ⟨_,rfl,rfl,rep_good hT hr.choose_spec⟩
end Go.Proofs.Ythpahlkhiknofaa.P
set_option linter.unusedSectionVars false
namespace Go.Proofs.Ythpahlkhiknofaa.P
open Go Go.RowKit Go.Proofs.Ythpahlkhiknofaa.M Go.Proofs.Ythpahlkhiknofaa.G
open Go.Proofs.YthpahlkhiknofaaW.PrintWords Go.Proofs.YthpahlkhiknofaaW.PrintMore
theorem str_size (xs:List Int):(strOfNums xs).size = xs.length:=by
  unfold strOfNums
  show (xs.map fun n=>UInt8.ofNat n.toNat).toArray.size = xs.length
  simp
theorem str_bt {xs:List Int} {i:Nat} (h:i < xs.length) (h0:0 ≤ xs[i]) (h1:xs[i] < 256):bt (strOfNums xs) (i:Int) = xs[i]:=by
  have hs:i < (strOfNums xs).size:=by rw [str_size];exact h
  rw [bt_get hs]
  have e:(strOfNums xs)[i] = UInt8.ofNat xs[i].toNat:=by
    show (xs.map fun n=>UInt8.ofNat n.toNat).toArray[i]'(by simpa using h) = _
    simp
  rw [e,UInt8.toNat_ofNat_of_lt' (by show xs[i].toNat < 256;omega)]
  omega
end Go.Proofs.Ythpahlkhiknofaa.P
set_option linter.unusedSectionVars false
namespace Go.Proofs.Ythpahlkhiknofaa.G
open Go.RowKit Go.Proofs.YthpahlkhiknofaaW.PrintWords Go.Proofs.YthpahlkhiknofaaW.PrintLast Go.Proofs.YthpahlkhiknofaaW.PrintMore
set_option maxHeartbeats 8000000
set_option maxRecDepth 100000
attribute [local go_sem] max2_int min2_int max_two min_two max_three min_three max_four min_four   -- for this text's walks alone
def numnahlaw01_mod.f (a0:Int) (a1:Int):Option (Int):=if (IntKind.u64.wrap (a1)) = 0 then (none) else (some (wrap64 (Int.tmod (IntKind.u64.wrap (a0)) (IntKind.u64.wrap (a1)))))
theorem numnahlaw01_mod.calls (a0:Int) (a1:Int) (r:Int) (w:World) (h:numnahlaw01_mod.f a0 a1 = some r) :
  Calls Try.prog 27 #[.int .i64 a0,.int .i64 a1] w fun e w'=>e = .returned (.int .i64 r) ∧ Drawn0 w w':=by
 have H:(if (IntKind.u64.wrap (a1)) = 0 then (none) else (some (wrap64 (Int.tmod (IntKind.u64.wrap (a0)) (IntKind.u64.wrap (a1)))))) = some r:=h
 clear h
 by_cases c3:(IntKind.u64.wrap (a1)) = 0
 ·rw [if_pos c3] at H
  exact absurd H (by simp)
 rw [if_neg c3] at H
 have c3b0:((IntKind.u64.wrap (a1)) == 0) = false:=beq_eq_false_iff_ne.mpr c3
 have c3b1:((IntKind.u64.wrap (a1)) != 0) = true:=bne_iff_ne.mpr c3
 obtain rfl:=Option.some.inj H
 go_enter Try.func27,Try.ntmps27
 go_wp2
 go_ret
 exact ⟨by first | rfl | (simp;done) | (simp [*];done),by repeat (first | exact Drawn0.refl _ | apply Drawn0.step)⟩
def numnahlaw01_function.l0:Nat → ByteArray → Int → Int → List Int → Int → Option (ByteArray)
 | 0,_,_,_,_,_=>none
 | k + 1,x0,x1,x2,x7,x8=>if 0 ≤ x1 then (if x8 < (shl .i64 1 x1) then (if x8 < (x0.size:Int) then (if 0 ≤ x8 then (if x2 = 0 then (none) else (if 0 ≤ (Int.tmod (wrap64 (bt x0 x8)) x2) then (if (Int.tmod (wrap64 (bt x0 x8)) x2) < 3 then (if x7.length < 140737488355328 then (numnahlaw01_function.l0 k x0 x1 x2 (x7 ++ [bt (⟨#[48,49,45]⟩:ByteArray) (Int.tmod (wrap64 (bt x0 x8)) x2)]) (wrap64 (x8 + 1))) else (none)) else (none)) else (none))) else (none)) else (if 0 < 3 then (if x7.length < 140737488355328 then (numnahlaw01_function.l0 k x0 x1 x2 (x7 ++ [bt (⟨#[48,49,45]⟩:ByteArray) 0]) (wrap64 (x8 + 1))) else (none)) else (none))) else (some (strOfNums x7))) else (none)
def numnahlaw01_function.f (k:Nat) (a0:ByteArray) (a1:Int) (a2:Int):Option (ByteArray):=numnahlaw01_function.l0 k a0 a1 a2 ([]:List Int) 0
theorem numnahlaw01_function.mono_l:∀ k,(∀ y0 y1 y2 y3 y4,LeO (numnahlaw01_function.l0 k y0 y1 y2 y3 y4) (numnahlaw01_function.l0 (k + 1) y0 y1 y2 y3 y4))
 | 0=>fun _ _ _ _ _ r h=>by simp [numnahlaw01_function.l0] at h
 | k + 1=>by
  have ih0:=numnahlaw01_function.mono_l k
  intro y0 y1 y2 y3 y4
  unfold numnahlaw01_function.l0
  repeat' first
  | (with_reducible exact ih0 _ _ _ _ _)
  | (with_reducible exact LeO.refl _)
  | (with_reducible exact LeO.none _)
  | (with_reducible refine LeO.ite ?_ ?_)
  | (with_reducible refine LeO.bind ?_ (fun _=>?_))
  | exact ih0 _ _ _ _ _
  | exact LeO.none _
  | refine LeO.ite ?_ ?_
  | refine LeO.bind ?_ (fun _=>?_)
theorem numnahlaw01_function.mono:∀ a0 a1 a2 k,LeO (numnahlaw01_function.f k a0 a1 a2) (numnahlaw01_function.f (k + 1) a0 a1 a2):=by
 intro a0 a1 a2 k
 have ih0:=numnahlaw01_function.mono_l k
 unfold numnahlaw01_function.f
 repeat' first
   | (with_reducible exact ih0 _ _ _ _ _)
   | (with_reducible exact LeO.refl _)
   | (with_reducible exact LeO.none _)
   | (with_reducible refine LeO.ite ?_ ?_)
   | (with_reducible refine LeO.bind ?_ (fun _=>?_))
   | exact ih0 _ _ _ _ _
   | exact LeO.none _
   | refine LeO.ite ?_ ?_
   | refine LeO.bind ?_ (fun _=>?_)
theorem numnahlaw01_function.calls (k:Nat) (a0:ByteArray) (a1:Int) (a2:Int) (r:ByteArray) (w:World) (h:numnahlaw01_function.f k a0 a1 a2 = some r) :
  Calls Try.prog 28 #[.string a0,.int .i64 a1,.int .i64 a2] w fun e w'=>e = .returned (.string r) ∧ Below w.heap.size w w':=by
 have HB:=Aside0.mk (Below.refl w.heap.size w)
 have H:(numnahlaw01_function.l0 k a0 a1 a2 ([]:List Int) 0) = some r:=h
 clear h
 have H':=Aside0.mk H
 clear H
 go_enter Try.func28,Try.ntmps28
 go_wp2
 go_loopg [7,8] k (fun kq v7 v8 w'=>∃ (x7_1:List Int) (x8_1:Int),v8 = .int .i64 x8_1 ∧ Aside0 (numnahlaw01_function.l0 kq a0 a1 a2 x7_1 x8_1 = some r) ∧ Aside0 (kq ≤ k) ∧ Aside0 (Kd.R (Kd.int .u8) 5 w' w.heap.size (fun _=>True) v7 x7_1) ∧ Aside0 (Below w.heap.size w w'))
 case atStart=>exact ⟨(([]:List Int)),(0),(by first | rfl | (simp;done) | (simp [*];done)),H',⟨Nat.le_refl _⟩,⟨by first | exact Kd.R_nil _ _ _ _ _ | exact Kd.N_nil _ _ _ _ _ | exact Kd.V_nil _ _ _ _ _ | exact Kd.Q_nil _ _ _ _ _ | exact Kd.S_nil _ _ _ _ _⟩,⟨by repeat (first | (with_reducible first | exact HB.out | apply below_alloc | apply pw_below_drewN | apply below_drew1) | exact HB.out)⟩⟩
 case round =>
  clear H'
  try clear c2
  try clear p2
  obtain ⟨x7_1,x8_1,rfl,HA,HK1,HO_7,HB⟩:=hrel
  cases gk with
  | zero=>exact absurd HA.out (by simp [numnahlaw01_function.l0])
  | succ k1 =>
   have H:=HA.out
   clear HA
   simp only [numnahlaw01_function.l0] at H
   by_cases c4:0 ≤ a1
   case neg =>
    rw [if_neg c4] at H
    exact absurd H (by simp)
   rw [if_pos c4] at H
   have c4b0:=eq_true c4
   have c4b1:decide (0 ≤ a1) = true:=decide_eq_true c4
   clear c4
   obtain ⟨ji5,hji5⟩:∃ j_:Int,(shl .i64 1 a1) = j_:=⟨_,rfl⟩
   replace H:(if x8_1 < (ji5) then (if x8_1 < (a0.size:Int) then (if 0 ≤ x8_1 then (if a2 = 0 then (none) else (if 0 ≤ (Int.tmod (wrap64 (bt a0 x8_1)) a2) then (if (Int.tmod (wrap64 (bt a0 x8_1)) a2) < 3 then (if x7_1.length < 140737488355328 then (numnahlaw01_function.l0 k1 a0 a1 a2 (x7_1 ++ [bt (⟨#[48,49,45]⟩:ByteArray) (Int.tmod (wrap64 (bt a0 x8_1)) a2)]) (wrap64 (x8_1 + 1))) else (none)) else (none)) else (none))) else (none)) else (if 0 < 3 then (if x7_1.length < 140737488355328 then (numnahlaw01_function.l0 k1 a0 a1 a2 (x7_1 ++ [bt (⟨#[48,49,45]⟩:ByteArray) 0]) (wrap64 (x8_1 + 1))) else (none)) else (none))) else (some (strOfNums x7_1))) = some r:=by first | (rw [hji5] at H;exact H) | (simp only [hji5] at H ⊢;exact H)
   have hji5_:(IntKind.i64.wrap (1 * 2 ^ min a1.toNat 64)) = ji5:=hji5
   have hji5z:a1 ≤ 64 → (IntKind.i64.wrap (1 * 2 ^ a1.toNat)) = ji5:=shl_small hji5
   have hji5u:(IntKind.i64.wrap (2 ^ min a1.toNat 64)) = ji5:=by have h_:=hji5_;rw [Int.one_mul] at h_;exact h_
   have hji5v:a1 ≤ 64 → (IntKind.i64.wrap (2 ^ a1.toNat)) = ji5:=fun hle_=>by have h_:=hji5z hle_;rw [Int.one_mul] at h_;exact h_
   have hji5y:(wrap64 (1 * 2 ^ min a1.toNat 64)) = ji5:=(i64_w _).symm.trans hji5_
   have hji5x:a1 ≤ 64 → (wrap64 (1 * 2 ^ a1.toNat)) = ji5:=fun h_=>(i64_w _).symm.trans (hji5z h_)
   by_cases c6:x8_1 < (ji5)
   case neg =>
    rw [if_neg c6] at H
    have c6b0:decide (x8_1 < (ji5)) = false:=decide_eq_false c6
    clear c6
    obtain rfl:=Option.some.inj H
    have hcv21:=own_string (P:=Try.prog) Try.underlying42 Try.underlying5 Try.underlying9 (Kd.own_of_R HO_7.out)
    go_wp2
    go_ret
    exact ⟨by first | rfl | (simp [errW_none,errW_some] <;> rfl) | (simp only [← hji5];first | rfl | (simp [errW_none,errW_some] <;> rfl)) | (simp [*,errW_none,errW_some] <;> rfl),by repeat (first | (with_reducible first | exact HB.out | apply below_alloc | apply pw_below_drewN | apply below_drew1) | exact HB.out)⟩
   rw [if_pos c6] at H
   have c6b0:decide (x8_1 < (ji5)) = true:=decide_eq_true c6
   clear c6
   by_cases c7:x8_1 < (a0.size:Int)
   case neg =>
    rw [if_neg c7] at H
    have c7b0:decide (x8_1 < (a0.size:Int)) = false:=decide_eq_false c7
    clear c7
    by_cases c17:0 < 3
    case neg =>
     rw [if_neg c17] at H
     exact absurd H (by simp)
    rw [if_pos c17] at H
    have c17b0:decide (0 < 3) = true:=decide_eq_true c17
    clear c17
    by_cases c19:x7_1.length < 140737488355328
    case neg =>
     rw [if_neg c19] at H
     exact absurd H (by simp)
    rw [if_pos c19] at H
    have LMc19:=Aside0.mk c19
    clear c19
    obtain ⟨y219,hy219⟩:∃ y_:List Int,y_ = (x7_1 ++ [bt (⟨#[48,49,45]⟩:ByteArray) 0]):=⟨_,rfl⟩
    replace H:(numnahlaw01_function.l0 k1 a0 a1 a2 y219 (wrap64 (x8_1 + 1))) = some r:=by first | (rw [hy219];with_reducible exact H) | (have H2_:=(Option.bind_some _ _).symm.trans H;rw [hy219];with_reducible exact H2_) | (have H2_:=(Option.bind_some _ _).symm.trans H;with_reducible exact H2_) | with_reducible exact H | (rw [hy219];exact H) | exact H
    have Ny219:=Aside0.mk hy219
    clear hy219
    have H':=Aside0.mk H
    clear H
    have p18:0 ≤ (0:Int):=(by omega)
    have q18:0 < (3:Int):=(by omega)
    have hx18:=bt_at (⟨#[48,49,45]⟩:ByteArray) 0
    replace p18:=eq_true p18
    replace q18:=eq_true q18
    go_wp2_with (first | ((with_reducible refine gate_builtin (b:=.append) (xs:=#[.tmp 26,.tmp 29]) rfl ?_);at_builtin;refine Kd.R_append (Kd.int .u8) (w0:=w) w.heap.size rfl (.tmp 26) (.tmp 29) 42 5 (.int .u8 0) 1 rfl Try.underlying42 info5 rfl (by decide) (by omega) u7 x7_1 (bt (⟨#[48,49,45]⟩:ByteArray) 0) [.int .u8 (bt (⟨#[48,49,45]⟩:ByteArray) 0)] (fun _=>True) (fun _=>False) rfl rfl ?aP (fun _ hk=>hk.elim) ?aF ?aO ?aB ?aS ?aL ?_;(case aP=>exact rfl);(case aB=>exact (by repeat (first | (with_reducible first | exact HB.out | apply below_alloc | apply pw_below_drewN | apply below_drew1) | exact HB.out)));(case aF=>exact (fun _ _=>trivial));(case aO=>exact (by (with_reducible repeat (first | apply Kd.R_alloc | apply Kd.R_drewN | apply Kd.R_drew));exact HO_7.out));(case aS=>exact (below_size (by repeat (first | (with_reducible first | exact HB.out | apply below_alloc | apply pw_below_drewN | apply below_drew1) | exact HB.out))));(case aL=>have:=LMc19.out;omega);intro v220 w20 ho hb hg hat;rw [← Ny219.out] at ho;have n0_:=Aside0.mk (hb);have n1_:=Aside0.mk (ho);clear HB;clear HO_7;have HB:=n0_;have HO221:=n1_;clear n0_ n1_;clear ho hb hg hat))
    go_roundg k1
    case measure=>have:=HK1.out;omega
    case rel=>exact ⟨(y219),(wrap64 (x8_1 + 1)),(by first | rfl | (simp;done) | (simp [*];done)),H',⟨by have:=HK1.out;omega⟩,⟨by (with_reducible repeat (first | apply Kd.R_alloc | apply Kd.R_drewN | apply Kd.R_drew));exact HO221.out⟩,⟨by repeat (first | (with_reducible first | exact HB.out | apply below_alloc | apply pw_below_drewN | apply below_drew1) | exact HB.out)⟩⟩
   rw [if_pos c7] at H
   have c7b0:decide (x8_1 < (a0.size:Int)) = true:=decide_eq_true c7
   clear c7
   by_cases c8:0 ≤ x8_1
   case neg =>
    rw [if_neg c8] at H
    exact absurd H (by simp)
   rw [if_pos c8] at H
   have c8b0:decide (0 ≤ x8_1) = true:=decide_eq_true c8
   clear c8
   by_cases c10:a2 = 0
   ·rw [if_pos c10] at H
    exact absurd H (by simp)
   rw [if_neg c10] at H
   have c10b0:(a2 == 0) = false:=beq_eq_false_iff_ne.mpr c10
   have c10b1:(a2 != 0) = true:=bne_iff_ne.mpr c10
   obtain ⟨ji11,hji11⟩:∃ j_:Int,(Int.tmod (wrap64 (bt a0 x8_1)) a2) = j_:=⟨_,rfl⟩
   replace H:(if 0 ≤ (ji11) then (if (ji11) < 3 then (if x7_1.length < 140737488355328 then (numnahlaw01_function.l0 k1 a0 a1 a2 (x7_1 ++ [bt (⟨#[48,49,45]⟩:ByteArray) (ji11)]) (wrap64 (x8_1 + 1))) else (none)) else (none)) else (none)) = some r:=by first | (rw [hji11] at H;exact H) | (simp only [hji11] at H ⊢;exact H)
   by_cases c12:0 ≤ (ji11)
   case neg =>
    rw [if_neg c12] at H
    exact absurd H (by simp)
   rw [if_pos c12] at H
   have c12b0:decide (0 ≤ (ji11)) = true:=decide_eq_true c12
   clear c12
   by_cases c13:(ji11) < 3
   case neg =>
    rw [if_neg c13] at H
    exact absurd H (by simp)
   rw [if_pos c13] at H
   have c13b0:decide ((ji11) < 3) = true:=decide_eq_true c13
   clear c13
   by_cases c15:x7_1.length < 140737488355328
   case neg =>
    rw [if_neg c15] at H
    exact absurd H (by simp)
   rw [if_pos c15] at H
   have LMc15:=Aside0.mk c15
   clear c15
   obtain ⟨y216,hy216⟩:∃ y_:List Int,y_ = (x7_1 ++ [bt (⟨#[48,49,45]⟩:ByteArray) (ji11)]):=⟨_,rfl⟩
   replace H:(numnahlaw01_function.l0 k1 a0 a1 a2 y216 (wrap64 (x8_1 + 1))) = some r:=by first | (rw [hy216];with_reducible exact H) | (have H2_:=(Option.bind_some _ _).symm.trans H;rw [hy216];with_reducible exact H2_) | (have H2_:=(Option.bind_some _ _).symm.trans H;with_reducible exact H2_) | with_reducible exact H | (rw [hy216];exact H) | exact H
   have Ny216:=Aside0.mk hy216
   clear hy216
   have H':=Aside0.mk H
   clear H
   have p9:0 ≤ (x8_1:Int):=of_decide_eq_true (by first | (with_reducible assumption) | assumption)
   have q9:x8_1 < (a0.size:Int):=of_decide_eq_true (by first | (with_reducible assumption) | assumption)
   have hx9:=bt_at a0 x8_1
   replace p9:=eq_true p9
   replace q9:=eq_true q9
   have p14:0 ≤ ((ji11):Int):=of_decide_eq_true (by first | (with_reducible assumption) | assumption)
   have q14:(ji11) < (3:Int):=of_decide_eq_true (by first | (with_reducible assumption) | assumption)
   have hx14:=bt_at (⟨#[48,49,45]⟩:ByteArray) (ji11)
   replace p14:=eq_true p14
   replace q14:=eq_true q14
   go_wp2_with (first | ((with_reducible refine gate_builtin (b:=.append) (xs:=#[.tmp 26,.tmp 29]) rfl ?_);at_builtin;refine Kd.R_append (Kd.int .u8) (w0:=w) w.heap.size rfl (.tmp 26) (.tmp 29) 42 5 (.int .u8 0) 1 rfl Try.underlying42 info5 rfl (by decide) (by omega) u7 x7_1 (bt (⟨#[48,49,45]⟩:ByteArray) (ji11)) [.int .u8 (bt (⟨#[48,49,45]⟩:ByteArray) (ji11))] (fun _=>True) (fun _=>False) rfl rfl ?aP (fun _ hk=>hk.elim) ?aF ?aO ?aB ?aS ?aL ?_;(case aP=>exact rfl);(case aB=>exact (by repeat (first | (with_reducible first | exact HB.out | apply below_alloc | apply pw_below_drewN | apply below_drew1) | exact HB.out)));(case aF=>exact (fun _ _=>trivial));(case aO=>exact (by (with_reducible repeat (first | apply Kd.R_alloc | apply Kd.R_drewN | apply Kd.R_drew));exact HO_7.out));(case aS=>exact (below_size (by repeat (first | (with_reducible first | exact HB.out | apply below_alloc | apply pw_below_drewN | apply below_drew1) | exact HB.out))));(case aL=>have:=LMc15.out;omega);intro v217 w16 ho hb hg hat;rw [← Ny216.out] at ho;have n0_:=Aside0.mk (hb);have n1_:=Aside0.mk (ho);clear HB;clear HO_7;have HB:=n0_;have HO218:=n1_;clear n0_ n1_;clear ho hb hg hat))
   go_roundg k1
   case measure=>have:=HK1.out;omega
   case rel=>exact ⟨(y216),(wrap64 (x8_1 + 1)),(by first | rfl | (simp;done) | (simp [*];done)),H',⟨by have:=HK1.out;omega⟩,⟨by (with_reducible repeat (first | apply Kd.R_alloc | apply Kd.R_drewN | apply Kd.R_drew));exact HO218.out⟩,⟨by repeat (first | (with_reducible first | exact HB.out | apply below_alloc | apply pw_below_drewN | apply below_drew1) | exact HB.out)⟩⟩
end Go.Proofs.Ythpahlkhiknofaa.G
