/- Several texts, joined. -/
import Derived.Test.YtjohcjfmlhihbaaQSmallest1
set_option linter.unusedVariables false
set_option linter.unusedSimpArgs false
namespace Go.Proofs.Ytjohcjfmlhihbaa.G
open Go.RowKit Go.Proofs.YtjohcjfmlhihbaaW.PrintWords Go.Proofs.YtjohcjfmlhihbaaW.PrintLast Go.Proofs.YtjohcjfmlhihbaaW.PrintMore
set_option maxHeartbeats 8000000
set_option maxRecDepth 100000
attribute [local go_sem] cond_true cond_false fld23_0 fld23_1 fld45_0 fld45_1 fld109_0 fld109_1 fld94_0 fld94_1 max2_int min2_int max_two min_two max_three min_three max_four min_four   -- for this text's walks alone
def numnahlaw07_fit.l0:Nat → List (S23) → Int → Option (Bool)
 | 0,_,_=>none
 | k + 1,x0,x3=>if x3 < (x0.length:Int) then (if 0 ≤ x3 then ((numnahref07_Within.f k ((rd_T23 x0 x3).f0) ((rd_T23 x0 x3).f1) 0 1073741824 1073741824).bind fun b5=>(if b5 = true then (numnahlaw07_fit.l0 k x0 (wrap64 (x3 + 1))) else (some false))) else (none)) else (some true)
def numnahlaw07_fit.f (k:Nat) (l0:List (S23)):Option (Bool):=numnahlaw07_fit.l0 k l0 0
theorem numnahlaw07_fit.mono_l:∀ k,(∀ y0 y1,LeO (numnahlaw07_fit.l0 k y0 y1) (numnahlaw07_fit.l0 (k + 1) y0 y1))
 | 0=>fun _ _ r h=>by simp [numnahlaw07_fit.l0] at h
 | k + 1=>by
  have b7:=numnahlaw07_fit.mono_l k;intro y0 y1;unfold numnahlaw07_fit.l0
  repeat' first
  | (with_reducible exact b7 _ _)
  | (with_reducible exact numnahref07_Within.mono _ _ _ _ _ _)
  | (with_reducible exact LeO.refl _)
  | (with_reducible exact LeO.none _)
  | (with_reducible refine LeO.ite ?_ ?_)
  | (with_reducible refine LeO.bind ?_ (fun _=>?_))
  | exact b7 _ _
  | exact numnahref07_Within.mono _ _ _ _ _ _
  | exact LeO.none _
  | refine LeO.ite ?_ ?_
  | refine LeO.bind ?_ (fun _=>?_)
theorem numnahlaw07_fit.mono:∀ a0 k,LeO (numnahlaw07_fit.f k a0) (numnahlaw07_fit.f (k + 1) a0):=by
 intro a0 k;have b7:=numnahlaw07_fit.mono_l k;unfold numnahlaw07_fit.f
 repeat' first
   | (with_reducible exact b7 _ _)
   | (with_reducible exact numnahref07_Within.mono _ _ _ _ _ _)
   | (with_reducible exact LeO.refl _)
   | (with_reducible exact LeO.none _)
   | (with_reducible refine LeO.ite ?_ ?_)
   | (with_reducible refine LeO.bind ?_ (fun _=>?_))
   | exact b7 _ _
   | exact numnahref07_Within.mono _ _ _ _ _ _
   | exact LeO.none _
   | refine LeO.ite ?_ ?_
   | refine LeO.bind ?_ (fun _=>?_)
theorem numnahlaw07_fit.calls (k:Nat) (A0:Option Addr) (c0:Nat) (l0:List (S23)) (r:Bool) (w:World) (d0:Kd.C k23 w A0 l0.length l0) (d1:l0.length ≤ c0) (h:numnahlaw07_fit.f k l0 = some r) :
  Calls Try.prog 27 #[.slice A0 l0.length c0] w fun e w'=>e = .returned (.bool r) ∧ Below w.heap.size w w':=by
 have d5:=Try.underlying23;have d2:=Aside0.mk d0;have d7:=Aside0.mk d1;clear d0 d1;have HB:=Aside0.mk (Below.refl w.heap.size w);have H:(numnahlaw07_fit.l0 k l0 0) = some r:=h;clear h;have H':=Aside0.mk H;clear H;go_enter Try.func27,Try.ntmps27;go_wp2;go_loopg [3] k (fun kq v3 w'=>∃ (b0:Int),v3 = .int .i64 b0 ∧ Aside0 (numnahlaw07_fit.l0 kq l0 b0 = some r) ∧ Aside0 (kq ≤ k) ∧ Aside0 (Below w.heap.size w w'))
 case atStart=>exact ⟨(0),(by first | rfl | (simp;done) | (simp [*];done)),H',⟨Nat.le_refl _⟩,⟨by repeat (first | (with_reducible first | exact HB.out | apply below_alloc | apply pw_below_drewN | apply below_drew1) | exact HB.out)⟩⟩
 case round =>
  clear H';obtain ⟨b0,rfl,HA,d3,HB⟩:=hrel
  cases gk with
  | zero=>exact absurd HA.out (by simp [numnahlaw07_fit.l0])
  | succ k1 =>
   have H:=HA.out;clear HA;simp only [numnahlaw07_fit.l0] at H;by_cases c2:b0 < (l0.length:Int)
   case neg =>
    rw [if_neg c2] at H;have c1:decide (b0 < (l0.length:Int)) = false:=decide_eq_false c2;clear c2;obtain rfl:=Option.some.inj H;go_wp2;go_ret;exact ⟨by first | rfl | (simp [errW_none,errW_some] <;> rfl) | (simp [*,errW_none,errW_some] <;> rfl),by repeat (first | (with_reducible first | exact HB.out | apply below_alloc | apply pw_below_drewN | apply below_drew1) | exact HB.out)⟩
   rw [if_pos c2] at H;have c1:decide (b0 < (l0.length:Int)) = true:=decide_eq_true c2;clear c2;by_cases c3:0 ≤ b0
   case neg =>
    rw [if_neg c3] at H;exact absurd H (by simp)
   rw [if_pos c3] at H;have d6:decide (0 ≤ b0) = true:=decide_eq_true c3;clear c3;replace H:=Option.bind_eq_some_iff.mp H;obtain ⟨b5,d4,H⟩:=H;replace H:(if b5 = true then (numnahlaw07_fit.l0 k1 l0 (wrap64 (b0 + 1))) else (some false)) = some r:=H;have A4:=Aside0.mk d4;clear d4;by_cases c5:b5 = true
   case neg =>
    replace c5:=Bool.eq_false_iff.mpr c5;subst c5;have H1:(some false) = some r:=by rw [if_neg (show ¬ (false = true) by decide)] at H;exact H
    clear H;have H:=H1;clear H1;obtain rfl:=Option.some.inj H;have b3:0 ≤ (b0:Int):=of_decide_eq_true (by first | (with_reducible assumption) | assumption);have b4:b0 < (l0.length:Int):=of_decide_eq_true (by first | (with_reducible assumption) | assumption);obtain ⟨b8,b6,b1,b2⟩:=at_T23 d2.out b0 b3 b4
    cases b6;replace b1:=(HB.out.cell (World.block_lt_of_cell? w _ b1)).trans b1;replace b2:=(HB.out.cell (World.block_lt_of_cell? w _ b2)).trans b2;replace b3:=eq_true b3;replace b4:=eq_true b4;go_wp2_with (first | ((with_reducible refine gate_callee (f:=69) rfl ?_);refine goesL_ (some 14) rfl rfl Try.func69 (by kernel_rfl) rfl #[.agg #[.int .i64 ((rd_T23 l0 b0).f0),.int .i64 ((rd_T23 l0 b0).f1)],.int .i64 0,.int .i64 1073741824,.int .i64 1073741824] rfl (by (try simp only [List.map_toArray,List.map_cons,List.map_nil]);first | done | rfl | (simp only [List.length_drop,List.length_take];rfl)) ?_;(with_reducible refine (numnahref07_Within.calls k1 ((rd_T23 l0 b0).f0) ((rd_T23 l0 b0).f1) 0 1073741824 1073741824 false _ A4.out).mono ?_);rintro e w7 ⟨rfl,hb⟩;refine ⟨_,rfl,?_⟩;have b9:=Aside0.mk (below_step (by repeat (first | (with_reducible first | exact HB.out | apply below_alloc | apply pw_below_drewN | apply below_drew1) | exact HB.out)) hb);clear HB;have HB:=b9;clear b9;(try clear hb)));go_ret;exact ⟨by first | rfl | (simp [errW_none,errW_some] <;> rfl) | (simp [*,errW_none,errW_some] <;> rfl),by repeat (first | (with_reducible first | exact HB.out | apply below_alloc | apply pw_below_drewN | apply below_drew1) | exact HB.out)⟩
   subst c5;have H1:(numnahlaw07_fit.l0 k1 l0 (wrap64 (b0 + 1))) = some r:=by rw [if_pos rfl] at H;exact H
   clear H;have H:=H1;clear H1;have H':=Aside0.mk H;clear H;have b3:0 ≤ (b0:Int):=of_decide_eq_true (by first | (with_reducible assumption) | assumption);have b4:b0 < (l0.length:Int):=of_decide_eq_true (by first | (with_reducible assumption) | assumption);obtain ⟨b8,b6,b1,b2⟩:=at_T23 d2.out b0 b3 b4
   cases b6;replace b1:=(HB.out.cell (World.block_lt_of_cell? w _ b1)).trans b1;replace b2:=(HB.out.cell (World.block_lt_of_cell? w _ b2)).trans b2;replace b3:=eq_true b3;replace b4:=eq_true b4;go_wp2_with (first | ((with_reducible refine gate_callee (f:=69) rfl ?_);refine goesL_ (some 14) rfl rfl Try.func69 (by kernel_rfl) rfl #[.agg #[.int .i64 ((rd_T23 l0 b0).f0),.int .i64 ((rd_T23 l0 b0).f1)],.int .i64 0,.int .i64 1073741824,.int .i64 1073741824] rfl (by (try simp only [List.map_toArray,List.map_cons,List.map_nil]);first | done | rfl | (simp only [List.length_drop,List.length_take];rfl)) ?_;(with_reducible refine (numnahref07_Within.calls k1 ((rd_T23 l0 b0).f0) ((rd_T23 l0 b0).f1) 0 1073741824 1073741824 true _ A4.out).mono ?_);rintro e w6 ⟨rfl,hb⟩;refine ⟨_,rfl,?_⟩;have b9:=Aside0.mk (below_step (by repeat (first | (with_reducible first | exact HB.out | apply below_alloc | apply pw_below_drewN | apply below_drew1) | exact HB.out)) hb);clear HB;have HB:=b9;clear b9;(try clear hb)));go_roundg k1
   case measure=>have:=d3.out;omega
   case rel=>exact ⟨(wrap64 (b0 + 1)),(by first | rfl | (simp;done) | (simp [*];done)),H',⟨by have:=d3.out;omega⟩,⟨by repeat (first | (with_reducible first | exact HB.out | apply below_alloc | apply pw_below_drewN | apply below_drew1) | exact HB.out)⟩⟩
end Go.Proofs.Ytjohcjfmlhihbaa.G
set_option linter.unusedSectionVars false
namespace Go.Proofs.Ytjohcjfmlhihbaa.P
open Go Go.RowKit Go.Proofs.Ytjohcjfmlhihbaa.G
open Go.Proofs.YtjohcjfmlhihbaaW.PrintWords Go.Proofs.YtjohcjfmlhihbaaW.PrintMore
theorem S23_ext {a b:S23} (h0:a.f0 = b.f0) (h1:a.f1 = b.f1):a = b:=by cases a;cases b;simp_all
instance:DecidableEq S23:=fun a b=>decidable_of_iff (a.f0 = b.f0 ∧ a.f1 = b.f1) ⟨fun h=>S23_ext h.1 h.2,fun h=>by rw [h];exact ⟨rfl,rfl⟩⟩
theorem ev_within {q:Rat} (h1:q.num.natAbs < 9223372036854775808) (lo hi d:Int):Ev (fun k=>numnahref07_Within.f k q.num (q.den:Int) lo hi d) (decide ((q.den:Int) ≤ d ∧ lo ≤ q.num ∧ q.num ≤ hi)):=by
 unfold numnahref07_Within.f
 have hp:=den_pos q
 refine Ev.congr (fun k=>if_pos (by omega)) ?_
 by_cases a1:(q.den:Int) ≤ d
 ·refine Ev.congr (fun k=>if_pos a1) ?_
  by_cases a2:q.num ≥ lo
  ·refine Ev.congr (fun k=>if_pos a2) ?_
   by_cases a3:q.num ≤ hi
   ·refine Ev.congr (fun k=>if_pos a3) ?_
    rw [mx_abs h1,decide_eq_true (⟨a1,a2,a3⟩:_ ∧ _ ∧ _)]
    simp only [ref_gcd]
    refine Ev.bind (ev_gcd q.num.natAbs q.den) ?_
    rw [gcd_one q]
    exact Ev.now _
   ·rw [decide_eq_false (fun h=>a3 h.2.2)]
    exact Ev.congr (fun k=>if_neg a3) (Ev.now _)
  ·rw [decide_eq_false (fun h=>a2 h.2.1)]
   exact Ev.congr (fun k=>if_neg a2) (Ev.now _)
 ·rw [decide_eq_false (fun h=>a1 h.1)]
  exact Ev.congr (fun k=>if_neg a1) (Ev.now _)
theorem fit_l0 {x:List Rat} (hl:x.length ≤ 1000000) (hx:∀ q ∈ x,0 ≤ q ∧ Sm 1073741824 1073741824 q):∀ (d i:Nat),i + d = x.length → Ev (fun k=>numnahlaw07_fit.l0 k (encL x) (i:Int)) true:=by
 intro d
 induction d with
 | zero =>
  intro i hi
  refine Ev.step (f:=fun _=>some true) (fun k=>?_) (Ev.now _)
  rw [numnahlaw07_fit.l0,encL_length,if_neg (by omega)]
 | succ d ih =>
  intro i hi
  have hil:i < x.length:=by omega
  obtain ⟨q0,qs⟩:=hx _ (List.getElem_mem hil)
  have h1:=qs.num
  have h2:=qs.den
  have hw:=ev_within (q:=x[i]) (by omega) 0 1073741824 1073741824
  rw [decide_eq_true (⟨by omega,Rat.num_nonneg.2 q0,by omega⟩:_ ∧ _ ∧ _)] at hw
  obtain ⟨K1,e1⟩:=hw
  obtain ⟨K2,e2⟩:=ih (i + 1) (by omega)
  refine ⟨K1 + K2 + 1,fun k hk=>?_⟩
  obtain ⟨m,rfl⟩:∃ m,k = m + 1:=⟨k - 1,by omega⟩
  have f1:=e1 m (by omega)
  have f2:=e2 m (by omega)
  show numnahlaw07_fit.l0 (m + 1) _ _ = _
  rw [numnahlaw07_fit.l0,encL_length,if_pos (by omega),if_pos (by omega),rdE hil]
  simp only [encQ,f1,Option.bind_some,if_true]
  rw [wrap_succ (by omega)]
  exact f2
theorem ev_fit {x:List Rat} (hl:x.length ≤ 1000000) (hx:∀ q ∈ x,0 ≤ q ∧ Sm 1073741824 1073741824 q):Ev (fun k=>numnahlaw07_fit.f k (encL x)) true:=fit_l0 hl hx x.length 0 (by omega)
theorem mod_some (x:Int) {n:Int} (h0:0 < n) (h1:n ≤ 9223372036854775807):∃ m,0 ≤ m ∧ m < n ∧ numnahlaw07_mod.f x n = some m:=by
 unfold numnahlaw07_mod.f
 have e:IntKind.u64.wrap n = n:=by
  rw [show IntKind.u64.wrap n = n % 18446744073709551616 from by first | rfl | exact IntKind.wrap_u64 n | simp [IntKind.wrap]]
  omega
 obtain ⟨u,hu⟩:∃ u,IntKind.u64.wrap x = u:=⟨_,rfl⟩
 have hu0:0 ≤ u ∧ u ≤ 18446744073709551615:=by
  rw [← hu,show IntKind.u64.wrap x = x % 18446744073709551616 from by first | rfl | exact IntKind.wrap_u64 x | simp [IntKind.wrap]]
  omega
 rw [e,hu,if_neg (by omega),Int.tmod_eq_emod_of_nonneg hu0.1]
 have m0:=Int.emod_nonneg u (show n ≠ 0 by omega)
 have m1:=Int.emod_lt_of_pos u h0
 exact ⟨u % n,m0,m1,by rw [wrap_id (by omega) (by omega)]⟩
theorem tame_end {out:List Int} (ho:out.length ≤ 10) (hm:∀ x ∈ out,0 ≤ x ∧ x ≤ 1000) (e:Int):∃ l E,IsCl l ∧ 0 ≤ E ∧ E ≤ sI l ∧ (out.length ≠ 0 → l = out) ∧ (if (out.length:Int) = 0 then (some (([0]:List Int),(0:Int))) else (numnahlaw07_mod.f e (wrap64 (sI out + 1))).bind fun t=>(some (out,t))) = some (l,E):=by
 by_cases h0:out.length = 0
 ·exact ⟨[0],0,⟨by simp,by simp,fun x hx=>by rw [List.mem_singleton.1 hx];omega⟩,Int.le_refl _,by simp [sI],fun hne=>absurd h0 hne,by rw [if_pos (by omega)]⟩
 ·have hb:=sI_bound hm
  obtain ⟨m,h1,h2,h3⟩:=mod_some e (n:=sI out + 1) (by omega) (by omega)
  refine ⟨out,m,⟨by omega,ho,hm⟩,h1,by omega,fun _=>rfl,?_⟩
  rw [if_neg (by omega),wrap_id (by omega) (by omega),h3]
  rfl
theorem tame_l0 (l:List Int) (e:Int):∀ (d i:Nat) (out:List Int),i + d = 10 → i ≤ l.length → out.length = i → (∀ x ∈ out,0 ≤ x ∧ x ≤ 1000) → ∃ l' E,IsCl l' ∧ 0 ≤ E ∧ E ≤ sI l' ∧ (l.length ≠ 0 → l'.length = min l.length 10) ∧ Ev (fun k=>numnahlaw07_tame.l0 k l e out (sI out) (i:Int)) (l',E):=by
 intro d
 induction d with
 | zero =>
  intro i out hi hil0 ho hm
  obtain ⟨l',E,h1,h2,h3,h5,h4⟩:=tame_end (by omega) hm e
  refine ⟨l',E,h1,h2,h3,fun _=>by rw [h5 (by omega)];omega,Ev.step (f:=fun _=>some (l',E)) (fun k=>?_) (Ev.now _)⟩
  rw [numnahlaw07_tame.l0]
  by_cases hil:(i:Int) < (l.length:Int)
  ·rw [if_pos hil,if_neg (by omega)];exact h4
  ·rw [if_neg hil];exact h4
 | succ d ih =>
  intro i out hi hil0 ho hm
  by_cases hil:i < l.length
  ·obtain ⟨m,m0,m1,hmod⟩:=mod_some l[i] (n:=1001) (by omega) (by omega)
   have hm':∀ x ∈ out ++ [m],0 ≤ x ∧ x ≤ 1000:=fun x hx=>by
    rcases List.mem_append.1 hx with hx | hx
    ·exact hm x hx
    ·rw [List.mem_singleton.1 hx];omega
   obtain ⟨l',E,h1,h2,h3,h5,h4⟩:=ih (i + 1) (out ++ [m]) (by omega) (by omega) (by simp [ho]) hm'
   refine ⟨l',E,h1,h2,h3,h5,Ev.step (fun k=>?_) h4⟩
   have hb:=sI_bound hm'
   have hlen:(out ++ [m]).length = i + 1:=by simp [ho]
   have hrd:rd (out ++ [m]) (i:Int) = m:=by rw [rd_get (by omega)];simp [← ho]
   have hs:sI out + m = sI (out ++ [m]):=by rw [sI_append];simp [sI]
   rw [numnahlaw07_tame.l0,if_pos (by omega),if_pos (by omega),if_pos (by omega),rd_get hil,hmod]
   simp only [Option.bind_some]
   rw [if_pos (by omega),if_pos (by omega),hrd,hs,wrap_id (by omega) (by omega),wrap_succ (by omega)]
  ·obtain ⟨l',E,h1,h2,h3,h5,h4⟩:=tame_end (by omega) hm e
   refine ⟨l',E,h1,h2,h3,fun hne=>by rw [h5 (by omega)];omega,Ev.step (f:=fun _=>some (l',E)) (fun k=>?_) (Ev.now _)⟩
   rw [numnahlaw07_tame.l0,if_neg (by omega)]
   exact h4
theorem ev_tame (l:List Int) (e:Int):∃ l' E,IsCl l' ∧ 0 ≤ E ∧ E ≤ sI l' ∧ (l.length ≠ 0 → l'.length = min l.length 10) ∧ Ev (fun k=>numnahlaw07_tame.f k l e) (l',E):=tame_l0 l e 10 0 [] (by omega) (by omega) rfl (by simp)
theorem IsRule.len {r:Nat} {q:List Rat} {E:Rat} {x:List Rat} (h:IsRule r q E x):x.length = q.length:=by
 obtain ⟨_,_,rfl,_⟩:=h
 exact List.length_map _
section
variable {l:List Int} (h:IsCl l) {E:Int} (h0:0 ≤ E) (h1:E ≤ sI l) {r:Nat}
include h h0 h1
theorem cl_nonneg:∀ c ∈ cl l,0 ≤ c:=fun c hc=>(cl_okC h c hc).lo
theorem award_pr (hr:r ≤ 4):∃ x,IsRule r (cl l) (E:Rat) x ∧ Ev (fun k=>shares_Award.f k (r:Int) l E) (encL x,0):=ev_Award h h0 h1 hr
theorem award_within {x:List Rat} (hx:IsRule r (cl l) (E:Rat) x):∃ φ:Rat → Rat,Form r (cl l) (E:Rat) φ ∧ x = (cl l).map φ ∧ tot x = (E:Rat) ∧ ∀ c ∈ cl l,0 ≤ φ c ∧ φ c ≤ c:=by
 obtain ⟨φ,hf,rfl,ht⟩:=hx
 exact ⟨φ,hf,rfl,ht,form_within hf (E_ge h0) (E_le h h0 h1) ht (cl_nonneg h h0 h1)⟩
theorem award_D {x:List Rat} (hx:IsRule r (cl l) (E:Rat) x):∃ D,0 < D ∧ D ≤ 10000 ∧ (r ≠ 0 → D ≤ 20) ∧ ∀ y ∈ x,y.den ∣ D:=by
 have hs:=sI_cl h
 have hl:=h.ten
 have hlen:(cl l).length ≤ 10:=by rw [cl_length];exact hl
 have hlen1:1 ≤ (cl l).length:=by rw [cl_length];exact h.one
 obtain ⟨φ,hf,rfl,ht⟩:=hx
 have hcl:∀ c ∈ cl l,c.den ∣ 2:=fun c hc=>(cl_okC h c hc).den
 have hch:∀ c ∈ cl l,(c / 2).den ∣ 2:=fun c hc=>(cl_half_okC h _ (List.mem_map.2 ⟨c,hc,rfl⟩)).den
 have wh:∀ {F L:Rat},F.den ∣ 2 → tot ((cl l).map fun c=>min c L) = F → ∃ D,2 ∣ D ∧ 0 < D ∧ D ≤ 20 ∧ ∀ c ∈ cl l,(min c L).den ∣ D:=fun {F L} hF h2=>by
  obtain ⟨m,m1,m2,md⟩:=IsEq.den2 (l:=cl l) ⟨L,rfl,h2⟩ (by omega) hcl hF hlen1
  exact ⟨2 * m,Nat.dvd_mul_right _ _,by omega,by omega,fun c hc=>md _ (List.mem_map.2 ⟨c,hc,rfl⟩)⟩
 have hv:∀ {F L:Rat},F.den ∣ 2 → tot ((cl l).map fun c=>min (c / 2) L) = F → ∃ D,2 ∣ D ∧ 0 < D ∧ D ≤ 20 ∧ ∀ c ∈ cl l,(min (c / 2) L).den ∣ D:=fun {F L} hF h2=>by
  rw [← map_half] at h2
  obtain ⟨m,m1,m2,md⟩:=IsEq.den2 (l:=(cl l).map (· / 2)) ⟨L,rfl,h2⟩ (by omega) (fun d hd=>(cl_half_okC h d hd).den) hF (by rw [List.length_map];exact hlen1)
  rw [List.length_map] at m2
  exact ⟨2 * m,Nat.dvd_mul_right _ _,by omega,by omega,fun c hc=>md _ (List.mem_map.2 ⟨c / 2,List.mem_map.2 ⟨c,hc,rfl⟩,rfl⟩)⟩
 have fin:∀ (f:Rat → Rat) (D:Nat),0 < D → D ≤ 10000 → (r ≠ 0 → D ≤ 20) → (∀ c ∈ cl l,(f c).den ∣ D) → ∃ D,0 < D ∧ D ≤ 10000 ∧ (r ≠ 0 → D ≤ 20) ∧ ∀ y ∈ (cl l).map f,y.den ∣ D:=fun f D d0 d1 d3 d2=>⟨D,d0,d1,d3,fun y hy=>by
  obtain ⟨c,hc,rfl⟩:=List.mem_map.1 hy
  exact d2 c hc⟩
 rcases form_cases hf with ⟨r0,rfl⟩ | ⟨_,L,rfl⟩ | ⟨_,L,rfl⟩ | ⟨_,_,L,rfl⟩ | ⟨_,_,L,rfl⟩ | ⟨_,_,L,rfl⟩
 ·obtain ⟨a,ha⟩:∃ a:Nat,sI l = (a:Int):=⟨(sI l).toNat,by omega⟩
  by_cases hp:0 < tot (cl l)
  ·have hap:0 < a:=by rw [tot_cl,ha] at hp;have:=Rat.intCast_pos.1 hp;omega
   refine fin _ a hap (by omega) (fun hr=>absurd r0 hr) (fun c hc=>?_)
   obtain ⟨n,hn,rfl⟩:=List.mem_map.1 hc
   rw [if_pos hp,tot_cl]
   have e:(n:Rat) * (E:Rat) / (sI l:Rat) = mkRat (n * E) a:=by rw [mk_frac,ha];push_cast;rfl
   rw [e]
   exact den_dvd _ (by omega)
  ·refine fin _ 1 (by omega) (by omega) (fun _=>by omega) (fun c hc=>?_)
   rw [if_neg hp]
   exact Nat.one_dvd _
 ·obtain ⟨D,_,d1,d2,d3⟩:=wh (E_den E) ht
  exact fin _ D d1 (by omega) (fun _=>d2) d3
 ·have hF:(tot (cl l) - (E:Rat)).den ∣ 2:=sub_den_dvd' (by rw [tot_cl];exact E_den _) (E_den E) (by omega)
  have:=tot_sub (fun c=>c) (fun c=>min c L) (cl l)
  rw [List.map_id',ht] at this
  obtain ⟨D,d0,d1,d2,d3⟩:=wh hF (L:=L) (by grind)
  exact fin _ D d1 (by omega) (fun _=>d2) fun c hc=>sub_den_dvd' (Nat.dvd_trans (hcl c hc) d0) (d3 c hc) d1
 ·obtain ⟨D,_,d1,d2,d3⟩:=hv (E_den E) ht
  exact fin _ D d1 (by omega) (fun _=>d2) d3
 ·have hF:(tot (cl l) - (E:Rat)).den ∣ 2:=sub_den_dvd' (by rw [tot_cl];exact E_den _) (E_den E) (by omega)
  have:=tot_sub (fun c=>c) (fun c=>min (c / 2) L) (cl l)
  rw [List.map_id',ht] at this
  obtain ⟨D,d0,d1,d2,d3⟩:=hv hF (L:=L) (by grind)
  exact fin _ D d1 (by omega) (fun _=>d2) fun c hc=>sub_den_dvd' (Nat.dvd_trans (hcl c hc) d0) (d3 c hc) d1
 ·have e:mkRat (sI l) 2 = (sI l:Rat) / 2:=mk_frac _ _
  have hF:((E:Rat) - tot (cl l) / 2).den ∣ 2:=sub_den_dvd' (E_den E) (by rw [tot_cl,← e];exact den_dvd _ (by omega)) (by omega)
  have:=tot_add (fun c=>c / 2) (fun c=>min (c / 2) L) (cl l)
  rw [ht,half_tot] at this
  obtain ⟨D,d0,d1,d2,d3⟩:=hv hF (L:=L) (by grind)
  exact fin _ D d1 (by omega) (fun _=>d2) fun c hc=>add_den_dvd' (Nat.dvd_trans (hch c hc) d0) (d3 c hc) d1
theorem award_den {x:List Rat} (hx:IsRule r (cl l) (E:Rat) x):∀ y ∈ x,y.den ≤ 10000:=by
 obtain ⟨D,d0,d1,_,d2⟩:=award_D h h0 h1 hx
 exact fun y hy=>Nat.le_trans (Nat.le_of_dvd d0 (d2 y hy)) d1
theorem award_sm {x:List Rat} (hx:IsRule r (cl l) (E:Rat) x):∀ y ∈ x,0 ≤ y ∧ Sm 10000000 10000 y:=by
 have hd:=award_den h h0 h1 hx
 obtain ⟨φ,hf,rfl,ht,hw⟩:=award_within h h0 h1 hx
 intro y hy
 have hdy:=hd y hy
 obtain ⟨c,hc,rfl⟩:=List.mem_map.1 hy
 obtain ⟨w1,w2⟩:=hw c hc
 have hhi:=(cl_okC h c hc).hi
 exact ⟨w1,Nat.le_trans (num_abs (B:=1000) w1 (by grind) hdy) (by decide),hdy⟩
theorem award_fit {x:List Rat} (hx:IsRule r (cl l) (E:Rat) x):Ev (fun k=>numnahlaw07_fit.f k (encL x)) true :=
 ev_fit (by rw [hx.len,cl_length];have:=h.ten;omega) (fun y hy=>by
  obtain ⟨a,b⟩:=award_sm h h0 h1 hx y hy
  exact ⟨a,b.mono (by decide) (by decide)⟩)
end
end Go.Proofs.Ytjohcjfmlhihbaa.P
namespace Go.Proofs.Ytjohcjfmlhihbaa.G
open Go.RowKit Go.Proofs.YtjohcjfmlhihbaaW.PrintWords Go.Proofs.YtjohcjfmlhihbaaW.PrintLast Go.Proofs.YtjohcjfmlhihbaaW.PrintMore
attribute [local go_sem] cond_true cond_false fld23_0 fld23_1 fld45_0 fld45_1 fld109_0 fld109_1 fld94_0 fld94_1 max2_int min2_int max_two min_two max_three min_three max_four min_four
mutual
def numnahlaw07_SharesSmallest.j0:Nat → List Int → List (S23) → List (S23) → List (S23) → Bool → Option (Bool)
 | 0,_,_,_,_,_=>none
 | k + 1,x7,x8,d2,d1,x92=>if x92 = true then (some false) else (if 0 < (x8.length:Int) then (if 0 < (d1.length:Int) then (if 0 < (x7.length:Int) then ((numnahref07_Whole.f (rd x7 0)).bind fun d8=>(if 0 < (d2.length:Int) then ((numnahref07_Sub.f k d8.1 d8.2 ((rd_T23 d2 0).f0) ((rd_T23 d2 0).f1)).bind fun d9=>((numnahref07_Whole.f (rd x7 0)).bind fun e0=>((numnahref07_Sub.f k e0.1 e0.2 ((rd_T23 d1 0).f0) ((rd_T23 d1 0).f1)).bind fun e1=>(numnahlaw07_SharesSmallest.l0 k x7 x8 d2 d1 0 ((rd_T23 x8 0).f0) ((rd_T23 x8 0).f1) ((rd_T23 d1 0).f0) ((rd_T23 d1 0).f1) d9.1 d9.2 e1.1 e1.2)))) else (none))) else (none)) else (none)) else (none))
def numnahlaw07_SharesSmallest.l0:Nat → List Int → List (S23) → List (S23) → List (S23) → Int → Int → Int → Int → Int → Int → Int → Int → Int → Option (Bool)
 | 0,_,_,_,_,_,_,_,_,_,_,_,_,_=>none
 | k + 1,x7,x8,d2,d1,d0,b0,b1,b2,b3,b4,b5,b6,b7=>if d0 < (x7.length:Int) then (if 0 ≤ d0 then (if d0 < (x8.length:Int) then ((numnahref07_Less.f ((rd_T23 x8 d0).f0) ((rd_T23 x8 d0).f1) b0 b1).bind fun e9=>(if e9 = true then (numnahlaw07_SharesSmallest.j2 k x7 x8 d2 d1 d0 ((rd_T23 x8 d0).f0) ((rd_T23 x8 d0).f1) b2 b3 b4 b5 b6 b7) else (numnahlaw07_SharesSmallest.j2 k x7 x8 d2 d1 d0 b0 b1 b2 b3 b4 b5 b6 b7))) else (none)) else (none)) else ((numnahref07_Less.f b0 b1 b2 b3).bind fun h0=>(if h0 = true then (some false) else ((numnahref07_Less.f b6 b7 b4 b5).bind fun h1=>(if h1 = true then (some false) else ((numnahlaw07_awake.f k).bind fun h2=>(some h2))))))
def numnahlaw07_SharesSmallest.j2:Nat → List Int → List (S23) → List (S23) → List (S23) → Int → Int → Int → Int → Int → Int → Int → Int → Int → Option (Bool)
 | 0,_,_,_,_,_,_,_,_,_,_,_,_,_=>none
 | k + 1,x7,x8,d2,d1,d0,b0,b1,b2,b3,b4,b5,b6,b7=>if 0 ≤ d0 then (if d0 < (d1.length:Int) then ((numnahref07_Less.f ((rd_T23 d1 d0).f0) ((rd_T23 d1 d0).f1) b2 b3).bind fun h3=>(if h3 = true then (numnahlaw07_SharesSmallest.j3 k x7 x8 d2 d1 d0 b0 b1 ((rd_T23 d1 d0).f0) ((rd_T23 d1 d0).f1) b4 b5 b6 b7) else (numnahlaw07_SharesSmallest.j3 k x7 x8 d2 d1 d0 b0 b1 b2 b3 b4 b5 b6 b7))) else (none)) else (none)
def numnahlaw07_SharesSmallest.j3:Nat → List Int → List (S23) → List (S23) → List (S23) → Int → Int → Int → Int → Int → Int → Int → Int → Int → Option (Bool)
 | 0,_,_,_,_,_,_,_,_,_,_,_,_,_=>none
 | k + 1,x7,x8,d2,d1,d0,b0,b1,b2,b3,b4,b5,b6,b7=>if 0 ≤ d0 then (if d0 < (x7.length:Int) then ((numnahref07_Whole.f (rd x7 d0)).bind fun e2=>(if d0 < (d2.length:Int) then ((numnahref07_Sub.f k e2.1 e2.2 ((rd_T23 d2 d0).f0) ((rd_T23 d2 d0).f1)).bind fun d6=>((numnahref07_Less.f b4 b5 d6.1 d6.2).bind fun h4=>(if h4 = true then (numnahlaw07_SharesSmallest.j4 k x7 x8 d2 d1 d0 b0 b1 b2 b3 d6.1 d6.2 b6 b7) else (numnahlaw07_SharesSmallest.j4 k x7 x8 d2 d1 d0 b0 b1 b2 b3 b4 b5 b6 b7)))) else (none))) else (none)) else (none)
def numnahlaw07_SharesSmallest.j4:Nat → List Int → List (S23) → List (S23) → List (S23) → Int → Int → Int → Int → Int → Int → Int → Int → Int → Option (Bool)
 | 0,_,_,_,_,_,_,_,_,_,_,_,_,_=>none
 | k + 1,x7,x8,d2,d1,d0,b0,b1,b2,b3,b4,b5,b6,b7=>if 0 ≤ d0 then (if d0 < (x7.length:Int) then ((numnahref07_Whole.f (rd x7 d0)).bind fun e3=>(if d0 < (d1.length:Int) then ((numnahref07_Sub.f k e3.1 e3.2 ((rd_T23 d1 d0).f0) ((rd_T23 d1 d0).f1)).bind fun d7=>((numnahref07_Less.f b6 b7 d7.1 d7.2).bind fun h5=>(if h5 = true then (numnahlaw07_SharesSmallest.l0 k x7 x8 d2 d1 (wrap64 (d0 + 1)) b0 b1 b2 b3 b4 b5 d7.1 d7.2) else (numnahlaw07_SharesSmallest.l0 k x7 x8 d2 d1 (wrap64 (d0 + 1)) b0 b1 b2 b3 b4 b5 b6 b7)))) else (none))) else (none)) else (none)
end
def numnahlaw07_SharesSmallest.f (k:Nat) (l0:List Int) (a1:Int) (a2:Int):Option (Bool):=(numnahlaw07_tame.f k l0 a1).bind fun b8=>((shares_Award.f k 1 b8.1 b8.2).bind fun b9=>((shares_Award.f k 2 b8.1 b8.2).bind fun c0=>((numnahlaw07_mod.f a2 5).bind fun h6=>((shares_Award.f k h6 b8.1 b8.2).bind fun c1=>(if b9.2 = 0 then (if c0.2 = 0 then (if c1.2 = 0 then (if (b9.1.length:Int) = (b8.1.length:Int) then (if (c0.1.length:Int) = (b8.1.length:Int) then (if (c1.1.length:Int) = (b8.1.length:Int) then ((numnahlaw07_fit.f k b9.1).bind fun h7=>(if h7 = true then ((numnahlaw07_fit.f k c0.1).bind fun h8=>(if h8 = true then ((numnahlaw07_fit.f k c1.1).bind fun h9=>(numnahlaw07_SharesSmallest.j0 k b8.1 b9.1 c0.1 c1.1 (!h9))) else (numnahlaw07_SharesSmallest.j0 k b8.1 b9.1 c0.1 c1.1 true))) else (numnahlaw07_SharesSmallest.j0 k b8.1 b9.1 c0.1 c1.1 true))) else (numnahlaw07_SharesSmallest.j0 k b8.1 b9.1 c0.1 c1.1 true)) else (numnahlaw07_SharesSmallest.j0 k b8.1 b9.1 c0.1 c1.1 true)) else (numnahlaw07_SharesSmallest.j0 k b8.1 b9.1 c0.1 c1.1 true)) else (numnahlaw07_SharesSmallest.j0 k b8.1 b9.1 c0.1 c1.1 true)) else (numnahlaw07_SharesSmallest.j0 k b8.1 b9.1 c0.1 c1.1 true)) else (numnahlaw07_SharesSmallest.j0 k b8.1 b9.1 c0.1 c1.1 true))))))
theorem numnahlaw07_SharesSmallest.mono_l:∀ k,(∀ y0 y1 y2 y3 y4,LeO (numnahlaw07_SharesSmallest.j0 k y0 y1 y2 y3 y4) (numnahlaw07_SharesSmallest.j0 (k + 1) y0 y1 y2 y3 y4)) ∧ (∀ y0 y1 y2 y3 y4 y5 y6 y7 y8 y9 d3 d4 d5,LeO (numnahlaw07_SharesSmallest.l0 k y0 y1 y2 y3 y4 y5 y6 y7 y8 y9 d3 d4 d5) (numnahlaw07_SharesSmallest.l0 (k + 1) y0 y1 y2 y3 y4 y5 y6 y7 y8 y9 d3 d4 d5)) ∧ (∀ y0 y1 y2 y3 y4 y5 y6 y7 y8 y9 d3 d4 d5,LeO (numnahlaw07_SharesSmallest.j2 k y0 y1 y2 y3 y4 y5 y6 y7 y8 y9 d3 d4 d5) (numnahlaw07_SharesSmallest.j2 (k + 1) y0 y1 y2 y3 y4 y5 y6 y7 y8 y9 d3 d4 d5)) ∧ (∀ y0 y1 y2 y3 y4 y5 y6 y7 y8 y9 d3 d4 d5,LeO (numnahlaw07_SharesSmallest.j3 k y0 y1 y2 y3 y4 y5 y6 y7 y8 y9 d3 d4 d5) (numnahlaw07_SharesSmallest.j3 (k + 1) y0 y1 y2 y3 y4 y5 y6 y7 y8 y9 d3 d4 d5)) ∧ (∀ y0 y1 y2 y3 y4 y5 y6 y7 y8 y9 d3 d4 d5,LeO (numnahlaw07_SharesSmallest.j4 k y0 y1 y2 y3 y4 y5 y6 y7 y8 y9 d3 d4 d5) (numnahlaw07_SharesSmallest.j4 (k + 1) y0 y1 y2 y3 y4 y5 y6 y7 y8 y9 d3 d4 d5))
 | 0=>⟨fun _ _ _ _ _ r h=>by simp [numnahlaw07_SharesSmallest.j0] at h,fun _ _ _ _ _ _ _ _ _ _ _ _ _ r h=>by simp [numnahlaw07_SharesSmallest.l0] at h,fun _ _ _ _ _ _ _ _ _ _ _ _ _ r h=>by simp [numnahlaw07_SharesSmallest.j2] at h,fun _ _ _ _ _ _ _ _ _ _ _ _ _ r h=>by simp [numnahlaw07_SharesSmallest.j3] at h,fun _ _ _ _ _ _ _ _ _ _ _ _ _ r h=>by simp [numnahlaw07_SharesSmallest.j4] at h⟩
 | k + 1=>by
  obtain ⟨e4,e5,e6,e7,e8⟩:=numnahlaw07_SharesSmallest.mono_l k;refine ⟨?_,?_,?_,?_,?_⟩
  ·intro y0 y1 y2 y3 y4;unfold numnahlaw07_SharesSmallest.j0
   repeat' first
   | (with_reducible first | exact e4 _ _ _ _ _ | exact e5 _ _ _ _ _ _ _ _ _ _ _ _ _ | exact e6 _ _ _ _ _ _ _ _ _ _ _ _ _ | exact e7 _ _ _ _ _ _ _ _ _ _ _ _ _ | exact e8 _ _ _ _ _ _ _ _ _ _ _ _ _ | exact numnahlaw07_awake.mono _ | exact numnahlaw07_fit.mono _ _ | exact numnahlaw07_tame.mono _ _ _ | exact numnahref07_Sub.mono _ _ _ _ _ | exact shares_Award.mono _ _ _ _ | exact LeO.refl _ | exact LeO.none _ | refine LeO.ite ?_ ?_ | refine LeO.bind ?_ (fun _=>?_))
   | exact LeO.none _ | refine LeO.ite ?_ ?_ | refine LeO.bind ?_ (fun _=>?_)
  ·intro y0 y1 y2 y3 y4 y5 y6 y7 y8 y9 d3 d4 d5;unfold numnahlaw07_SharesSmallest.l0
   repeat' first
   | (with_reducible first | exact e4 _ _ _ _ _ | exact e5 _ _ _ _ _ _ _ _ _ _ _ _ _ | exact e6 _ _ _ _ _ _ _ _ _ _ _ _ _ | exact e7 _ _ _ _ _ _ _ _ _ _ _ _ _ | exact e8 _ _ _ _ _ _ _ _ _ _ _ _ _ | exact numnahlaw07_awake.mono _ | exact numnahlaw07_fit.mono _ _ | exact numnahlaw07_tame.mono _ _ _ | exact numnahref07_Sub.mono _ _ _ _ _ | exact shares_Award.mono _ _ _ _ | exact LeO.refl _ | exact LeO.none _ | refine LeO.ite ?_ ?_ | refine LeO.bind ?_ (fun _=>?_))
   | exact LeO.none _ | refine LeO.ite ?_ ?_ | refine LeO.bind ?_ (fun _=>?_)
  ·intro y0 y1 y2 y3 y4 y5 y6 y7 y8 y9 d3 d4 d5;unfold numnahlaw07_SharesSmallest.j2
   repeat' first
   | (with_reducible first | exact e4 _ _ _ _ _ | exact e5 _ _ _ _ _ _ _ _ _ _ _ _ _ | exact e6 _ _ _ _ _ _ _ _ _ _ _ _ _ | exact e7 _ _ _ _ _ _ _ _ _ _ _ _ _ | exact e8 _ _ _ _ _ _ _ _ _ _ _ _ _ | exact numnahlaw07_awake.mono _ | exact numnahlaw07_fit.mono _ _ | exact numnahlaw07_tame.mono _ _ _ | exact numnahref07_Sub.mono _ _ _ _ _ | exact shares_Award.mono _ _ _ _ | exact LeO.refl _ | exact LeO.none _ | refine LeO.ite ?_ ?_ | refine LeO.bind ?_ (fun _=>?_))
   | exact LeO.none _ | refine LeO.ite ?_ ?_ | refine LeO.bind ?_ (fun _=>?_)
  ·intro y0 y1 y2 y3 y4 y5 y6 y7 y8 y9 d3 d4 d5;unfold numnahlaw07_SharesSmallest.j3
   repeat' first
   | (with_reducible first | exact e4 _ _ _ _ _ | exact e5 _ _ _ _ _ _ _ _ _ _ _ _ _ | exact e6 _ _ _ _ _ _ _ _ _ _ _ _ _ | exact e7 _ _ _ _ _ _ _ _ _ _ _ _ _ | exact e8 _ _ _ _ _ _ _ _ _ _ _ _ _ | exact numnahlaw07_awake.mono _ | exact numnahlaw07_fit.mono _ _ | exact numnahlaw07_tame.mono _ _ _ | exact numnahref07_Sub.mono _ _ _ _ _ | exact shares_Award.mono _ _ _ _ | exact LeO.refl _ | exact LeO.none _ | refine LeO.ite ?_ ?_ | refine LeO.bind ?_ (fun _=>?_))
   | exact LeO.none _ | refine LeO.ite ?_ ?_ | refine LeO.bind ?_ (fun _=>?_)
  intro y0 y1 y2 y3 y4 y5 y6 y7 y8 y9 d3 d4 d5;unfold numnahlaw07_SharesSmallest.j4
  repeat' first
  | (with_reducible first | exact e4 _ _ _ _ _ | exact e5 _ _ _ _ _ _ _ _ _ _ _ _ _ | exact e6 _ _ _ _ _ _ _ _ _ _ _ _ _ | exact e7 _ _ _ _ _ _ _ _ _ _ _ _ _ | exact e8 _ _ _ _ _ _ _ _ _ _ _ _ _ | exact numnahlaw07_awake.mono _ | exact numnahlaw07_fit.mono _ _ | exact numnahlaw07_tame.mono _ _ _ | exact numnahref07_Sub.mono _ _ _ _ _ | exact shares_Award.mono _ _ _ _ | exact LeO.refl _ | exact LeO.none _ | refine LeO.ite ?_ ?_ | refine LeO.bind ?_ (fun _=>?_))
  | exact LeO.none _ | refine LeO.ite ?_ ?_ | refine LeO.bind ?_ (fun _=>?_)
theorem numnahlaw07_SharesSmallest.mono:∀ a0 a1 a2 k,LeO (numnahlaw07_SharesSmallest.f k a0 a1 a2) (numnahlaw07_SharesSmallest.f (k + 1) a0 a1 a2):=by
 intro a0 a1 a2 k;obtain ⟨e4,e5,e6,e7,e8⟩:=numnahlaw07_SharesSmallest.mono_l k;unfold numnahlaw07_SharesSmallest.f
 repeat' first
   | (with_reducible first | exact e4 _ _ _ _ _ | exact e5 _ _ _ _ _ _ _ _ _ _ _ _ _ | exact e6 _ _ _ _ _ _ _ _ _ _ _ _ _ | exact e7 _ _ _ _ _ _ _ _ _ _ _ _ _ | exact e8 _ _ _ _ _ _ _ _ _ _ _ _ _ | exact numnahlaw07_awake.mono _ | exact numnahlaw07_fit.mono _ _ | exact numnahlaw07_tame.mono _ _ _ | exact numnahref07_Sub.mono _ _ _ _ _ | exact shares_Award.mono _ _ _ _ | exact LeO.refl _ | exact LeO.none _ | refine LeO.ite ?_ ?_ | refine LeO.bind ?_ (fun _=>?_))
   | exact LeO.none _ | refine LeO.ite ?_ ?_ | refine LeO.bind ?_ (fun _=>?_)
def numnahlaw07_SharesSmallest.T7:Bool × List (List Nat × List Nat):=(true,[([],[]),([0],[0]),([1],[1]),([],[]),([3],[3]),([4],[4]),([],[]),([],[]),([6,2,0,1,2,6,7],[2,6]),([7,5,8,0,1,2,3,4,5,6,7,8],[5,7])])
def numnahlaw07_SharesSmallest.B7:List Nat:=[0,1,3,0,8,24,0,0,199,511]
theorem numnahlaw07_SharesSmallest.tab7:rtab .any (opsOf Try.f6 7) = numnahlaw07_SharesSmallest.T7:=by kernel_rfl
theorem numnahlaw07_SharesSmallest.bits7:waitsOk numnahlaw07_SharesSmallest.T7.2 numnahlaw07_SharesSmallest.B7 = true:=by kernel_rfl
def numnahlaw07_SharesSmallest.T8:Bool × List (List Nat × List Nat):=(true,[([],[]),([0],[0]),([1],[1]),([2],[2]),([],[]),([4],[4]),([5],[5]),([3,6,3],[3,6]),([],[]),([8],[8]),([9],[9]),([10,7],[10]),([],[]),([12],[12]),([13],[13]),([11,14,11],[11,14]),([],[]),([],[]),([16,7,15,0,1,2,3,4,5,6,7,16,17],[7,16]),([17,15,18,0,1,2,3,4,5,6,7,8,9,10,11,12,13,14,15,16,17,18],[15,17])])
def numnahlaw07_SharesSmallest.B8:List Nat:=[0,1,3,7,0,16,48,127,0,256,768,2047,0,4096,12288,32767,0,0,262143,524287]
theorem numnahlaw07_SharesSmallest.tab8:rtab .any (opsOf Try.f6 8) = numnahlaw07_SharesSmallest.T8:=by kernel_rfl
theorem numnahlaw07_SharesSmallest.bits8:waitsOk numnahlaw07_SharesSmallest.T8.2 numnahlaw07_SharesSmallest.B8 = true:=by kernel_rfl
def numnahlaw07_SharesSmallest.T16:Bool × List (List Nat × List Nat):=(true,[([],[]),([],[]),([0,1],[0,1]),([2],[2]),([3],[3]),([],[]),([],[]),([5,6],[5,6]),([7],[7]),([4,8,4],[4,8]),([],[]),([10,9,9,0,1,2,3,4,5,6,7,8,9,10],[9,10])])
def numnahlaw07_SharesSmallest.B16:List Nat:=[0,0,3,7,15,0,0,96,224,511,0,2047]
theorem numnahlaw07_SharesSmallest.tab16:rtab .any (opsOf Try.f6 16) = numnahlaw07_SharesSmallest.T16:=by kernel_rfl
theorem numnahlaw07_SharesSmallest.bits16:waitsOk numnahlaw07_SharesSmallest.T16.2 numnahlaw07_SharesSmallest.B16 = true:=by kernel_rfl
def numnahlaw07_SharesSmallest.T19:Bool × List (List Nat × List Nat):=(true,[([],[]),([],[]),([0,1],[0,1]),([2],[2]),([3],[3]),([],[]),([],[]),([5,6],[5,6]),([7],[7]),([4,8,4],[4,8]),([],[]),([10,9,9,0,1,2,3,4,5,6,7,8,9,10],[9,10])])
def numnahlaw07_SharesSmallest.B19:List Nat:=[0,0,3,7,15,0,0,96,224,511,0,2047]
theorem numnahlaw07_SharesSmallest.tab19:rtab .any (opsOf Try.f6 19) = numnahlaw07_SharesSmallest.T19:=by kernel_rfl
theorem numnahlaw07_SharesSmallest.bits19:waitsOk numnahlaw07_SharesSmallest.T19.2 numnahlaw07_SharesSmallest.B19 = true:=by kernel_rfl
end Go.Proofs.Ytjohcjfmlhihbaa.G
