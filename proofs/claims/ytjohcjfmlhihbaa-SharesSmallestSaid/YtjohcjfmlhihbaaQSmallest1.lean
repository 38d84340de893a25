/- Several texts, joined. -/
import Derived.Maps.Keyed
import Derived.Maps.Own
import Derived.KernelRfl
import Derived.Test.YtjohcjfmlhihbaaQS2
namespace Go.Proofs.Ytjohcjfmlhihbaa.H
end Go.Proofs.Ytjohcjfmlhihbaa.H
set_option linter.unusedVariables false
set_option linter.unusedSimpArgs false
namespace Go.Proofs.Ytjohcjfmlhihbaa.G
open Go Go.RowKit Go.Shelf Go.Proofs.Ytjohcjfmlhihbaa.H Go.Proofs.YtjohcjfmlhihbaaW.PrintWords
attribute [local go_sem] Oper.semAt_some wide_fn
def newClaimsR.f (k:Nat) (l0:List Int) (a1:Int):Option Bool:=(shares_newClaims.f k l0 a1).map fun x=>x.2.2
theorem newClaimsR.mono:∀ l0 a1 k,LeO (newClaimsR.f k l0 a1) (newClaimsR.f (k + 1) l0 a1):=by
 intro l0 a1 k r h
 unfold newClaimsR.f at h ⊢
 obtain ⟨x,hx,rfl⟩:=Option.map_eq_some_iff.1 h
 rw [shares_newClaims.mono _ _ _ x hx]
 rfl
theorem newClaimsR.parts {k:Nat} {l0:List Int} {a1:Int} {r:Bool} (h:newClaimsR.f k l0 a1 = some r) :
  (shares_areClaims.f l0 = some false ∧ r = false) ∨ (shares_areClaims.f l0 = some true ∧ ∃ t,shares_total.f k l0 = some t ∧ r = decide (0 ≤ a1 ∧ a1 ≤ t)):=by
 unfold newClaimsR.f shares_newClaims.f at h
 obtain ⟨x,hx,rfl⟩:=Option.map_eq_some_iff.1 h
 obtain ⟨b,hb,hx⟩:=Option.bind_eq_some_iff.1 hx
 cases b with
 | false =>
  rw [if_neg (by decide)] at hx
  obtain rfl:=Option.some.inj hx
  exact .inl ⟨hb,rfl⟩
 | true =>
  rw [if_pos rfl] at hx
  obtain ⟨t,ht,hx⟩:=Option.bind_eq_some_iff.1 hx
  obtain ⟨q,hq,hx⟩:=Option.bind_eq_some_iff.1 hx
  obtain rfl:=Option.some.inj hx
  refine .inr ⟨hb,t,ht,?_⟩
  unfold shares_within.f at hq
  by_cases g:a1 ≥ 0
  case neg =>
   rw [if_neg g] at hq
   obtain rfl:=Option.some.inj hq
   show false = decide (0 ≤ a1 ∧ a1 ≤ t)
   rw [eq_comm,decide_eq_false_iff_not]
   exact fun k=>g k.1
  rw [if_pos g] at hq
  obtain rfl:=Option.some.inj hq
  show decide (a1 ≤ t) = decide (0 ≤ a1 ∧ a1 ≤ t)
  rw [Bool.eq_iff_iff,decide_eq_true_iff,decide_eq_true_iff]
  exact ⟨fun k=>⟨g,k⟩,fun k=>k.2⟩
set_option maxHeartbeats 2000000 in
theorem newClaimsR.calls (k:Nat) (A0:Option Addr) (c0:Nat) (l0:List Int) (a1:Int) (r:Bool) (w:World) (hr0:Kd.C (Kd.int .i64) w A0 l0.length l0) (hc0:l0.length ≤ c0) (h:newClaimsR.f k l0 a1 = some r) :
  Calls Try.prog 62 #[.slice A0 l0.length c0,.int .i64 a1] w fun e w'=>e = .returned (.tuple #[.agg #[.slice A0 l0.length c0,.int .i64 a1],.bool r]) ∧ Below w.heap.size w w':=by
 refine (callsIn_wide (n:=9)).1 ?_
 refine callsIn_of_wp Try.func62 rfl trivial ?_
 simp only [Try.ntmps62,List.size_toArray,List.length_cons,List.length_nil,Nat.reduceAdd,Nat.reduceSub,Array.replicate_succ,Array.replicate_zero,List.push_toArray,List.append_toArray,List.nil_append,List.cons_append]
 have HL:=Lib.hid (Kd.C_alloc hr0 (.cells #[.slice none 0 0,.int .i64 0] 94))
 obtain ⟨a,b,c⟩:=lay1 w (.cells #[.slice none 0 0,.int .i64 0] 94)
 have HA:=Lib.hid a
 have HS:=Lib.hid b
 have HB:=Lib.hid c
 have HH:=Lib.hid (newClaimsR.parts h)
 clear h hr0 a b c
 gi_wp2_with fail
 rcases HH.out with ⟨h1,rfl⟩ | ⟨h1,t,h2,rfl⟩
 ·refine (callsIn_wide.2 (shares_areClaims.calls A0 c0 l0 false _ HL.out hc0 h1)).mono ?_
  rintro e w1 ⟨rfl,hb⟩
  have hc:=(hb.block _ (by rw [HS.out];omega)).trans HA.out
  have HC:=Lib.hid hc
  have k0:=(blk_cell hc 0).trans rfl
  have k1:=(blk_cell hc 1).trans rfl
  have f0:=blk_frozen hc 0
  have f1:=blk_frozen hc 1
  have HB1:=Lib.hid (HB.out.trans (hb.mono HB.out.size))
  clear hb h1 hc
  gi_wp2_with fail
  refine bodyPost_ret (results_ct rfl _ _ w.heap.size 94 #[.slice A0 l0.length c0,.int .i64 a1] (0,0) _ rfl (blk_put (blk_put HC.out 0 _ rfl) 1 _ rfl) Try.underlying94 rfl (by kernel_rfl)) rfl ⟨rfl,below_set (below_set HB1.out (Nat.le_refl _)) (Nat.le_refl _)⟩
 refine (callsIn_wide.2 (shares_areClaims.calls A0 c0 l0 true _ HL.out hc0 h1)).mono ?_
 rintro e w1 ⟨rfl,hb⟩
 have hc:=(hb.block _ (by rw [HS.out];omega)).trans HA.out
 have HC:=Lib.hid hc
 have k0:=(blk_cell hc 0).trans rfl
 have k1:=(blk_cell hc 1).trans rfl
 have f0:=blk_frozen hc 0
 have f1:=blk_frozen hc 1
 have HL1:=Lib.hid (Kd.C_below HL.out hb)
 have HB1:=Lib.hid (HB.out.trans (hb.mono HB.out.size))
 clear hb h1 hc
 gi_wp2_with fail
 refine (callsIn_wide.2 (shares_total.calls k A0 c0 l0 t _ HL1.out hc0 h2)).mono ?_
 rintro e w2 ⟨rfl,⟨n2,rfl⟩⟩
 gi_wp2_with fail
 refine (callsIn_wide.2 (within_val a1 0 t _)).mono ?_
 rintro e w3 ⟨rfl,⟨n3,rfl⟩⟩
 obtain ⟨q,hq⟩:∃ q,decide (0 ≤ a1 ∧ a1 ≤ t) = q:=⟨_,rfl⟩
 rw [hq]
 have HQ:=Lib.hid hq
 clear hq
 gi_wp2_with fail
 exact bodyPost_ret (results_ct rfl _ _ w.heap.size 94 #[.slice A0 l0.length c0,.int .i64 a1] (0,0) _ rfl (blk_put (blk_put (blk_drewN HC.out _) 0 _ rfl) 1 _ rfl) Try.underlying94 rfl (by kernel_rfl)) rfl ⟨by rw [HQ.out];rfl,below_set (below_set (below_drewN HB1.out _) (Nat.le_refl _)) (Nat.le_refl _)⟩
end Go.Proofs.Ytjohcjfmlhihbaa.G
namespace Go.Proofs.Ytjohcjfmlhihbaa.P
open Go Go.RowKit Go.Proofs.Ytjohcjfmlhihbaa.G
open Go.Proofs.YtjohcjfmlhihbaaW.PrintWords Go.Proofs.YtjohcjfmlhihbaaW.PrintMore
theorem rd_get {l:List Int} {i:Nat} (h:i < l.length):rd l (i:Int) = l[i]:=by unfold rd;simp [h]
theorem wrap_succ {i:Nat} (h:i < 9223372036854775807):wrap64 ((i:Int) + 1) = ((i + 1:Nat):Int):=by unfold wrap64;omega
def sI (l:List Int):Int:=l.foldr (· + ·) 0
theorem sI_cons (a:Int) (l:List Int):sI (a :: l) = a + sI l:=rfl
theorem sI_append (l m:List Int):sI (l ++ m) = sI l + sI m:=by
 induction l with
 | nil=>simp [sI]
 | cons a l ih=>rw [List.cons_append,sI_cons,sI_cons,ih];omega
theorem sI_bound {l:List Int} (h:∀ x ∈ l,0 ≤ x ∧ x ≤ 1000):0 ≤ sI l ∧ sI l ≤ 1000 * (l.length:Int):=by
 induction l with
 | nil=>simp [sI]
 | cons a l ih =>
  have h1:=h a (by simp)
  have h2:=ih (fun x hx=>h x (List.mem_cons_of_mem _ hx))
  rw [sI_cons,List.length_cons]
  omega
section
variable {l:List Int} (hb:∀ x ∈ l,0 ≤ x ∧ x ≤ 1000) (hl:l.length ≤ 1000000)
include hb hl
theorem total_l0:∀ (d i:Nat),i + d = l.length → Ev (fun k=>shares_total.l0 k (sI (l.take i)) l (l.length:Int) (i:Int)) (sI l):=by
 intro d
 induction d with
 | zero =>
  intro i hi
  refine Ev.step (f:=fun _=>some (sI l)) (fun k=>?_) (Ev.now _)
  rw [shares_total.l0,if_neg (by omega),List.take_of_length_le (by omega)]
 | succ d ih =>
  intro i hi
  have hil:i < l.length:=by omega
  refine Ev.step (fun k=>?_) (ih (i + 1) (by omega))
  have h1:=(sI_bound (l:=l.take (i + 1)) (fun x hx=>hb x (List.mem_of_mem_take hx)))
  have h2:(l.take (i + 1)).length ≤ 1000000:=by rw [List.length_take];omega
  have e:sI (l.take i) + l[i] = sI (l.take (i + 1)):=by rw [List.take_succ_eq_append_getElem hil,sI_append];simp [sI]
  rw [shares_total.l0,if_pos (by omega),if_pos (by omega),if_pos (by omega),rd_get hil,e,wrap_id (by omega) (by omega),wrap_succ (by omega)]
theorem ev_total:Ev (fun k=>shares_total.f k l) (sI l):=total_l0 hb hl l.length 0 (by omega)
end
structure IsCl (l:List Int):Prop where
 one:1 ≤ l.length
 ten:l.length ≤ 10
 mem:∀ x ∈ l,0 ≤ x ∧ x ≤ 1000
instance (l:List Int):Decidable (IsCl l):=decidable_of_iff (1 ≤ l.length ∧ l.length ≤ 10 ∧ ∀ x ∈ l,0 ≤ x ∧ x ≤ 1000) ⟨fun h=>⟨h.1,h.2.1,h.2.2⟩,fun h=>⟨h.1,h.2,h.3⟩⟩
def clB (l:List Int) (e:Int):Bool:=decide (IsCl l ∧ 0 ≤ e ∧ e ≤ sI l)
theorem areClaims_eq {l:List Int} (hf:H.fitL l):shares_areClaims.f l = some (decide (IsCl l)):=by
 unfold shares_areClaims.f shares_within.f contains119.f
 rw [if_pos hf]
 simp only [Option.bind_some]
 by_cases h1:(l.length:Int) ≥ 1
 ·rw [if_pos h1]
  simp only [Option.bind_some]
  by_cases h2:(l.length:Int) ≤ 10
  ·rw [if_pos (decide_eq_true h2)]
   congr 1
   by_cases h3:∀ x ∈ l,0 ≤ x ∧ x ≤ 1000
   ·rw [decide_eq_true (⟨by omega,by omega,h3⟩:IsCl l)]
    rw [Bool.not_eq_true',List.any_eq_false]
    intro x hx
    simpa using h3 x hx
   ·rw [decide_eq_false (fun h:IsCl l=>h3 h.mem)]
    rw [Bool.not_eq_false',List.any_eq_true]
    apply Classical.byContradiction
    intro hno
    refine h3 fun x hx=>Classical.byContradiction fun hx2=>hno ⟨x,hx,?_⟩
    rw [Bool.not_eq_true',decide_eq_false_iff_not]
    exact hx2
  ·rw [if_neg (by simpa using h2),decide_eq_false (fun h:IsCl l=>h2 (by have:=h.ten;omega))]
 ·rw [if_neg h1]
  simp only [Option.bind_some]
  rw [if_neg (by decide),decide_eq_false (fun h:IsCl l=>h1 (by have:=h.one;omega))]
theorem ev_newClaims {l:List Int} (hf:H.fitL l) (e:Int):Ev (fun k=>newClaimsR.f k l e) (clB l e):=by
 unfold newClaimsR.f shares_newClaims.f
 rw [areClaims_eq hf]
 simp only [Option.bind_some]
 unfold clB
 by_cases h:IsCl l
 ·simp only [h,decide_true,if_true,true_and]
  obtain ⟨K,hK⟩:=ev_total h.mem (by have:=h.ten;omega)
  refine ⟨K,fun k hk=>?_⟩
  have hk':shares_total.f k l = some (sI l):=hK k hk
  show Option.map _ _ = _
  rw [hk']
  simp only [Option.bind_some,shares_within.f]
  by_cases h0:e ≥ 0
  ·rw [if_pos h0]
   simp only [Option.bind_some,Option.map_some]
   congr 1
   rw [Bool.eq_iff_iff,decide_eq_true_iff,decide_eq_true_iff]
   exact ⟨fun k=>⟨h0,k⟩,fun k=>k.2⟩
  ·rw [if_neg h0]
   simp only [Option.bind_some,Option.map_some]
   rw [decide_eq_false (fun k=>h0 k.1)]
 ·refine ⟨0,fun k _=>?_⟩
  simp [h]
end Go.Proofs.Ytjohcjfmlhihbaa.P
namespace Go.Proofs.Ytjohcjfmlhihbaa.G
open Go.RowKit Go.Proofs.YtjohcjfmlhihbaaW.PrintWords Go.Proofs.YtjohcjfmlhihbaaW.PrintLast Go.Proofs.YtjohcjfmlhihbaaW.PrintMore
set_option maxHeartbeats 8000000
set_option maxRecDepth 100000
attribute [local go_sem] cond_true cond_false fld23_0 fld23_1 fld45_0 fld45_1 fld109_0 fld109_1 fld94_0 fld94_1 max2_int min2_int max_two min_two max_three min_three max_four min_four   -- for this text's walks alone
def numnahref07_Whole.f (a0:Int):Option (Int × Int):=some (a0,1)
theorem numnahref07_Whole.calls (a0:Int) (r1:Int) (r2:Int) (w:World) (h:numnahref07_Whole.f a0 = some (r1,r2)) :
  Calls Try.prog 23 #[.int .i64 a0] w fun e w'=>e = .returned (.agg #[.int .i64 r1,.int .i64 r2]) ∧ Below w.heap.size w w':=by
 have d0:=Try.underlying23;have HB:=Aside0.mk (Below.refl w.heap.size w);have H:(some (a0,1)) = some (r1,r2):=h;clear h;simp only [Option.some.injEq,Prod.mk.injEq] at H;obtain ⟨rfl,rfl⟩:=H;go_enter Try.func23,Try.ntmps23;go_wp2_with (first | ((with_reducible refine gate_dst (N:=2) rfl ?_);refine box_event ?hg (N:=2) ?hd (cs:=#[.int .i64 0,.int .i64 0]) (t:=23) ?hr ?_;(case hd=>rfl);(case hg=>rfl);(case hr=>first | (go_simp;done) | (go_simp;rfl));intro b0 hg w2 hbox hb;have b7:=Aside0.mk (below_step (by repeat (first | (with_reducible first | exact HB.out | apply below_alloc | apply pw_below_drewN | apply below_drew1) | exact HB.out)) hb);have b8:=Aside0.mk (hbox);have b9:=Aside0.mk ((by rw [hg];exact (below_size (by repeat (first | (with_reducible first | exact HB.out | apply below_alloc | apply pw_below_drewN | apply below_drew1) | exact HB.out))):w.heap.size ≤ b0));have c0:=Aside0.mk ((by rw [hg];exact (below_size (by repeat (first | (with_reducible first | exact HB.out | apply below_alloc | apply pw_below_drewN | apply below_drew1) | exact HB.out))):w.heap.size ≤ b0));clear HB;have HB:=b7;have b1:=b8;have c1:=b9;have b2:=c0;clear b7 b8 b9 c0;clear hb hbox hg;have b3:w2.cell? ⟨b0,0,none⟩ = some (.int .i64 0):=(blk_cell b1.out 0).trans rfl;have b4:w2.cell? ⟨b0,1,none⟩ = some (.int .i64 0):=(blk_cell b1.out 1).trans rfl;have b5:=blk_frozen b1.out 0;have b6:=blk_frozen b1.out 1));refine bodyPost_ret (results_cell_row rfl _ _ b0 23 #[.int .i64 a0,.int .i64 1] (0,0) _ rfl (by (with_reducible repeat (first | refine blk_drewN ?_ _ | refine blk_drew ?_ | refine blk_alloc ?_ _));refine blk_put (cs:=#[.int .i64 a0,.int .i64 0]) ?_ 1 _ rfl;(with_reducible repeat (first | refine blk_drewN ?_ _ | refine blk_drew ?_ | refine blk_alloc ?_ _));refine blk_put (cs:=#[.int .i64 0,.int .i64 0]) ?_ 0 _ rfl;(with_reducible repeat (first | refine blk_drewN ?_ _ | refine blk_drew ?_ | refine blk_alloc ?_ _));exact b1.out) Try.underlying23 rfl (by kernel_rfl)) rfl ?_;exact ⟨by first | rfl | (simp [errW_none,errW_some] <;> rfl) | (simp [*,errW_none,errW_some] <;> rfl),by repeat (first | (with_reducible first | exact HB.out | apply below_alloc | apply pw_below_drewN | apply below_drew1 | refine below_set ?_ b2.out) | exact HB.out)⟩
end Go.Proofs.Ytjohcjfmlhihbaa.G
namespace Go.Proofs.Ytjohcjfmlhihbaa.P
open Go Go.RowKit Go.Proofs.Ytjohcjfmlhihbaa.G
open Go.Proofs.YtjohcjfmlhihbaaW.PrintWords Go.Proofs.YtjohcjfmlhihbaaW.PrintMore
structure Sm (A D:Nat) (q:Rat):Prop where
 num:q.num.natAbs ≤ A
 den:q.den ≤ D
theorem Sm.mono {A D B E:Nat} {q:Rat} (h:Sm A D q) (h1:A ≤ B) (h2:D ≤ E):Sm B E q:=⟨Nat.le_trans h.num h1,Nat.le_trans h.den h2⟩
theorem Sm.int {A:Nat} {n:Int} (h:n.natAbs ≤ A):Sm A 1 (n:Rat):=⟨by rw [whole_num];exact h,by rw [whole_den];exact Nat.le_refl _⟩
theorem Sm.zero:Sm 0 1 (0:Rat):=⟨Nat.le_refl _,Nat.le_refl _⟩
theorem Sm.neg {A D:Nat} {q:Rat} (h:Sm A D q):Sm A D (-q):=⟨by rw [Rat.neg_num,Int.natAbs_neg];exact h.num,by rw [Rat.neg_den];exact h.den⟩
theorem Sm.add {A D B E:Nat} {p q:Rat} (h:Sm A D p) (k:Sm B E q):Sm (A * E + B * D) (D * E) (p + q) :=
 ⟨Nat.le_trans (add_num_le p q) (Nat.add_le_add (Nat.mul_le_mul h.num k.den) (Nat.mul_le_mul k.num h.den)),
  Nat.le_trans (Nat.le_of_dvd (Nat.mul_pos (den_pos p) (den_pos q)) (add_den_dvd p q)) (Nat.mul_le_mul h.den k.den)⟩
theorem Sm.half {A D:Nat} {q:Rat} (h:Sm A D q):Sm A (D * 2) (q / 2):=by
 have e:q / 2 = mkRat q.num (q.den * 2):=(mk_over q (n:=2) (by omega)).symm
 rw [e]
 exact ⟨Nat.le_trans (num_le _ _) h.num,Nat.le_trans (den_le (by have:=den_pos q;omega)) (Nat.mul_le_mul_right _ h.den)⟩
theorem Sm.fits {A D B E:Nat} {p q:Rat} (h:Sm A D p) (k:Sm B E q) (h1:A * E + B * D < 9223372036854775808) (h2:D * E < 9223372036854775808):Fits p q :=
 ⟨Nat.lt_of_le_of_lt (Nat.add_le_add (Nat.mul_le_mul h.num k.den) (Nat.mul_le_mul k.num h.den)) h1,Nat.lt_of_le_of_lt (Nat.mul_le_mul h.den k.den) h2⟩
end Go.Proofs.Ytjohcjfmlhihbaa.P
namespace Go.Proofs.Ytjohcjfmlhihbaa.G
open Go Go.RowKit Go.Proofs.YtjohcjfmlhihbaaW.PrintWords Go.Proofs.YtjohcjfmlhihbaaW.PrintLast
variable {P:Program} {ops:Array Oper} {Q:Exit → Act → World → Prop}
theorem goesV_ {oi:Oper} {N:Option Tmp} {a:Act} {w:World} {K:Act → World → Prop} {f:FuncId} {fn:Func} {as_:Array Operand} {ts:Array TypeId} (hf:P.funcs[f]? = some fn) (hname:(fn.name == "runtime.NumGoroutine") = false) (hb:fn.body.isSome = true) (args cap:Array Value) (t:Tmp)
    (hw:Region.wanted oi (yielded ops a.tmps) = true) (hN:oi.dst = N) (hop:oi.op = .call { callee:=.value (.tmp t),args:=as_,argTypes:=ts }) (hv:a.eval (.tmp t) = .func (.func f) #[] cap) (hargs:as_.map a.eval = args)
    (h:Calls P f (args ++ cap) w fun e w'=>∃ v,e = .returned v ∧ K (a.put N v) w'):if Region.wanted oi (yielded ops a.tmps) = true then Oper.wp P oi a w K Q else K (a.put N undef) w:=by
  refine call_ f (args ++ cap) hw hN ?_ h
  have he:=enters_ hf hname hb (args ++ cap) w
  have hargs':as_.map (fun o=>a.eval o) = args:=hargs
  unfold execOp
  simp [hop,resolve,Deferred.ofValue,invoke,hv,hargs,hargs',he]
end Go.Proofs.Ytjohcjfmlhihbaa.G
namespace Go.Proofs.Ytjohcjfmlhihbaa.G
open Go.RowKit Go.Proofs.YtjohcjfmlhihbaaW.PrintWords Go.Proofs.YtjohcjfmlhihbaaW.PrintLast Go.Proofs.YtjohcjfmlhihbaaW.PrintMore
set_option maxHeartbeats 8000000
set_option maxRecDepth 100000
attribute [local go_sem] cond_true cond_false fld23_0 fld23_1 fld45_0 fld45_1 fld109_0 fld109_1 fld94_0 fld94_1 max2_int min2_int max_two min_two max_three min_three max_four min_four   -- for this text's walks alone
def api_Frac_1.f (k:Nat) (a0:Int) (a1:Int) (a2:Int) (l3:List (S23)):Option (Int):=if 0 ≤ a0 then (if a0 < (l3.length:Int) then (if 0 ≤ a1 then (if a1 < (l3.length:Int) then ((shares_compare.f k ((rd_T23 l3 a0).f0) ((rd_T23 l3 a0).f1) ((rd_T23 l3 a1).f0) ((rd_T23 l3 a1).f1)).bind fun d3=>(some d3)) else (none)) else (none)) else (none)) else (none)
theorem api_Frac_1.mono:∀ a0 a1 a2 a3 k,LeO (api_Frac_1.f k a0 a1 a2 a3) (api_Frac_1.f (k + 1) a0 a1 a2 a3):=by
 intro a0 a1 a2 a3 k;unfold api_Frac_1.f
 repeat' first
   | (with_reducible exact shares_compare.mono _ _ _ _ _)
   | (with_reducible exact LeO.refl _)
   | (with_reducible exact LeO.none _)
   | (with_reducible refine LeO.ite ?_ ?_)
   | (with_reducible refine LeO.bind ?_ (fun _=>?_))
   | exact shares_compare.mono _ _ _ _ _
   | exact LeO.none _
   | refine LeO.ite ?_ ?_
   | refine LeO.bind ?_ (fun _=>?_)
theorem api_Frac_1.calls (k:Nat) (a0:Int) (a1:Int) (a2:Int) (A3:Option Addr) (c3:Nat) (l3:List (S23)) (r:Int) (w:World) (d2 c1:Nat) (e6:w.heap[d2]? = some (.cells #[.func (.func 85) #[] #[]] 123 (0,0))) (e7:w.heap[c1]? = some (.cells #[.slice A3 l3.length c3] 35 (0,0))) (e3:d2 ≠ c1) (e8:Kd.C k23 w A3 l3.length l3) (e9:l3.length ≤ c3) (h:api_Frac_1.f k a0 a1 a2 l3 = some r) :
  Calls Try.prog 114 #[.int .i64 a0,.int .i64 a1,.pointer (some ⟨d2,0,none⟩),.pointer (some ⟨c1,0,none⟩)] w fun e w'=>e = .returned (.int .i64 r) ∧ Below w.heap.size w w':=by
 have h5:=Try.underlying23;have b0:=A_ e6;have b1:=A_ e7;have d0:=A_ e3;have d1:=A_ e3.symm;clear e6 e7 e3;have h0:=A_ e8;have i1:=A_ e9;clear e8 e9;have HB:=A_ (Below.refl w.heap.size w);have H:(if 0 ≤ a0 then (if a0 < (l3.length:Int) then (if 0 ≤ a1 then (if a1 < (l3.length:Int) then ((shares_compare.f k ((rd_T23 l3 a0).f0) ((rd_T23 l3 a0).f1) ((rd_T23 l3 a1).f0) ((rd_T23 l3 a1).f1)).bind fun d3=>(some d3)) else (none)) else (none)) else (none)) else (none)) = some r:=h;clear h;by_cases c5:0 ≤ a0
 case neg =>
  rw [if_neg c5] at H;exact absurd H (by simp)
 rw [if_pos c5] at H;have h6:decide (0 ≤ a0) = true:=decide_eq_true c5;clear c5;by_cases c6:a0 < (l3.length:Int)
 case neg =>
  rw [if_neg c6] at H;exact absurd H (by simp)
 rw [if_pos c6] at H;have h7:decide (a0 < (l3.length:Int)) = true:=decide_eq_true c6;clear c6;by_cases c7:0 ≤ a1
 case neg =>
  rw [if_neg c7] at H;exact absurd H (by simp)
 rw [if_pos c7] at H;have h8:decide (0 ≤ a1) = true:=decide_eq_true c7;clear c7;by_cases c8:a1 < (l3.length:Int)
 case neg =>
  rw [if_neg c8] at H;exact absurd H (by simp)
 rw [if_pos c8] at H;have h9:decide (a1 < (l3.length:Int)) = true:=decide_eq_true c8;clear c8;replace H:=Option.bind_eq_some_iff.mp H;obtain ⟨d3,h1,H⟩:=H;replace H:(some d3) = some r:=H;have A9:=A_ h1;clear h1;obtain rfl:=Option.some.inj H;go_enter Try.func114,Try.ntmps114;try go_wp2_with (first | ((with_reducible refine gate_dst (N:=541) rfl ?_);refine box_event ?hg (N:=541) ?hd (cs:=#[.slice A3 l3.length c3]) (t:=35) ?hr ?_;(case hd=>rfl);(case hg=>rfl);(case hr=>first | (go_simp;done) | (go_simp;rfl));intro c1 hg i0 hbox hb;have b1:=A_ hbox;have d8:=gw hg HB;have d9:=d8;have d0:=nl hg b0;have d1:=ng hg b0;replace b0:=kB b0 hb;replace HB:=bB HB hb;clear hb hbox hg;have h2:=d1.out;have h3:=d0.out;have e1:i0.cell? ⟨c1,0,none⟩ = some (.slice A3 l3.length c3):=cz b1 0;have e2:=blk_frozen b1.out 0))
 replace b0:=A_ (blk_drew b0.out);replace b1:=A_ (blk_drew b1.out);replace HB:=A_ (below_drew1 HB.out);have d4:0 ≤ (a0:Int):=of_decide_eq_true (by first | (with_reducible assumption) | assumption);have d5:a0 < (l3.length:Int):=of_decide_eq_true (by first | (with_reducible assumption) | assumption);obtain ⟨b6,e4,b2,b3⟩:=at_T23 h0.out a0 d4 d5;have b7:=b3;have b8:=b2
 cases e4;replace b2:=(HB.out.cell (World.block_lt_of_cell? w _ b2)).trans b2;replace b3:=(HB.out.cell (World.block_lt_of_cell? w _ b3)).trans b3;replace d4:=eq_true d4;replace d5:=eq_true d5;have d6:0 ≤ (a1:Int):=of_decide_eq_true (by first | (with_reducible assumption) | assumption);have d7:a1 < (l3.length:Int):=of_decide_eq_true (by first | (with_reducible assumption) | assumption);obtain ⟨e0,e5,b4,b5⟩:=at_T23 h0.out a1 d6 d7;have b9:=b5;have c0:=b4;obtain rfl:b6 = e0:=(by injection e5)
 replace b4:=(HB.out.cell (World.block_lt_of_cell? w _ b4)).trans b4;replace b5:=(HB.out.cell (World.block_lt_of_cell? w _ b5)).trans b5;replace d6:=eq_true d6;replace d7:=eq_true d7;refine start_ (n:=11) (S:=fun w'=>w'.cell? ⟨d2,0,none⟩ = some (.func (.func 85) #[] #[]) ∧ w'.cell? ⟨c1,0,none⟩ = some (.slice (some b6) l3.length c3) ∧ w'.cell? (b6.add ((a0).toNat * 2)) = some (.int .i64 ((rd_T23 l3 a0).f0)) ∧ w'.cell? ⟨(b6.add ((a0).toNat * 2)).block,(b6.add ((a0).toNat * 2)).off + 1,none⟩ = some (.int .i64 ((rd_T23 l3 a0).f1)) ∧ w'.cell? (b6.add ((a1).toNat * 2)) = some (.int .i64 ((rd_T23 l3 a1).f0)) ∧ w'.cell? ⟨(b6.add ((a1).toNat * 2)).block,(b6.add ((a1).toNat * 2)).off + 1,none⟩ = some (.int .i64 ((rd_T23 l3 a1).f1))) (ds:=[]) (ba 11 0) (by kernel_rfl) rfl rfl ⟨cz b0 0,cz b1 0,((HB.out.cell (World.block_lt_of_cell? w _ b8)).trans b8),((HB.out.cell (World.block_lt_of_cell? w _ b7)).trans b7),((HB.out.cell (World.block_lt_of_cell? w _ c0)).trans c0),((HB.out.cell (World.block_lt_of_cell? w _ b9)).trans b9)⟩ (fun hHeld=>?_);generalize w.drew = i2 at b0 b1 HB b2 b3 b4 b5 hHeld ⊢;refine pr 2 9 4 ?_;refine pr 6 13 68 ?_;refine tr 0 7 69 hHeld ?_;refine tr 1 8 71 hHeld ?_;refine pr 3 10 79 ?_;refine tr 4 11 95 hHeld ?_;refine tr 5 12 127 hHeld ?_;refine pr 7 14 255 ?_;refine tr 8 15 511 hHeld ?_;refine os 9 16 1023 (fun K hK=>?_);refine goesV_ Try.func85 (by kernel_rfl) rfl #[.agg #[.int .i64 ((rd_T23 l3 a0).f0),.int .i64 ((rd_T23 l3 a0).f1)],.agg #[.int .i64 ((rd_T23 l3 a1).f0),.int .i64 ((rd_T23 l3 a1).f1)]] #[] 7 (by rfl) rfl rfl rfl (by (try simp only [List.map_toArray,List.map_cons,List.map_nil]);first | done | rfl | (simp only [List.length_drop,List.length_take];rfl)) ?_;rw [Array.append_empty];with_reducible refine (shares_compare.calls k ((rd_T23 l3 a0).f0) ((rd_T23 l3 a0).f1) ((rd_T23 l3 a1).f0) ((rd_T23 l3 a1).f1) d3 _ A9.out).mono ?_;rintro e i3 ⟨rfl,hb⟩;refine ⟨_,rfl,?_⟩;replace b0:=kB b0 hb;replace b1:=kB b1 hb;replace HB:=bB HB hb;(try clear hb)
 refine hK.out _ _ ⟨cz b0 0,cz b1 0,((HB.out.cell (World.block_lt_of_cell? w _ b8)).trans b8),((HB.out.cell (World.block_lt_of_cell? w _ b7)).trans b7),((HB.out.cell (World.block_lt_of_cell? w _ c0)).trans c0),((HB.out.cell (World.block_lt_of_cell? w _ b9)).trans b9)⟩ (fun hHeld=>?_);clear hK K;refine nq 16 ?_;refine pr 10 6 2047 ?_;refine done_ (by kernel_rfl) ?_;try go_wp2
 go_ret;exact ⟨by first | rfl | (simp [errW_none,errW_some] <;> rfl) | (simp [*,errW_none,errW_some] <;> rfl),by repeat (first | (with_reducible first | exact HB.out | apply below_alloc | apply pw_below_drewN | apply below_drew1 | refine below_set ?_ h4.out | refine below_set ?_ d9.out) | exact HB.out)⟩
end Go.Proofs.Ytjohcjfmlhihbaa.G
namespace Go.Proofs.Ytjohcjfmlhihbaa.G
open Go.RowKit Go.Proofs.YtjohcjfmlhihbaaW.PrintWords Go.Proofs.YtjohcjfmlhihbaaW.PrintLast Go.Proofs.YtjohcjfmlhihbaaW.PrintMore
set_option maxHeartbeats 8000000
set_option maxRecDepth 100000
attribute [local go_sem] cond_true cond_false fld23_0 fld23_1 fld45_0 fld45_1 fld109_0 fld109_1 fld94_0 fld94_1 max2_int min2_int max_two min_two max_three min_three max_four min_four
mutual
def slices_insertionSortCmpFunc_int.l0:Nat → List Int → Int → Int → List (S23) → Int → Option (List Int)
 | 0,_,_,_,_,_=>none
 | k + 1,x0,x1,x2,x3,x8=>if x8 < x2 then (slices_insertionSortCmpFunc_int.l1 k x0 x1 x2 x3 x8 x8) else (some x0)
def slices_insertionSortCmpFunc_int.l1:Nat → List Int → Int → Int → List (S23) → Int → Int → Option (List Int)
 | 0,_,_,_,_,_,_=>none
 | k + 1,x0,x1,x2,x3,x8,x9=>if x9 > x1 then (if 0 ≤ x9 then (if x9 < (x0.length:Int) then (if 0 ≤ (wrap64 (x9 - 1)) then (if (wrap64 (x9 - 1)) < (x0.length:Int) then ((api_Frac_1.f k (rd x0 x9) (rd x0 (wrap64 (x9 - 1))) 0 x3).bind fun b9=>(if b9 < 0 then (slices_insertionSortCmpFunc_int.l1 k ((x0.set (x9:Int).toNat (rd x0 (wrap64 (x9 - 1)))).set ((wrap64 (x9 - 1)):Int).toNat (rd x0 x9)) x1 x2 x3 x8 (wrap64 (x9 - 1))) else (slices_insertionSortCmpFunc_int.l0 k x0 x1 x2 x3 (wrap64 (x8 + 1))))) else (none)) else (none)) else (none)) else (none)) else (slices_insertionSortCmpFunc_int.l0 k x0 x1 x2 x3 (wrap64 (x8 + 1)))
end
def slices_insertionSortCmpFunc_int.f (k:Nat) (l0:List Int) (a1:Int) (a2:Int) (l3:List (S23)):Option (List Int):=slices_insertionSortCmpFunc_int.l0 k l0 a1 a2 l3 (wrap64 (a1 + 1))
theorem slices_insertionSortCmpFunc_int.mono_l:∀ k,(∀ y0 y1 y2 y3 y4,LeO (slices_insertionSortCmpFunc_int.l0 k y0 y1 y2 y3 y4) (slices_insertionSortCmpFunc_int.l0 (k + 1) y0 y1 y2 y3 y4)) ∧ (∀ y0 y1 y2 y3 y4 y5,LeO (slices_insertionSortCmpFunc_int.l1 k y0 y1 y2 y3 y4 y5) (slices_insertionSortCmpFunc_int.l1 (k + 1) y0 y1 y2 y3 y4 y5))
 | 0=>⟨fun _ _ _ _ _ r h=>by simp [slices_insertionSortCmpFunc_int.l0] at h,fun _ _ _ _ _ _ r h=>by simp [slices_insertionSortCmpFunc_int.l1] at h⟩
 | k + 1=>by
  obtain ⟨l5,l6⟩:=slices_insertionSortCmpFunc_int.mono_l k;refine ⟨?_,?_⟩
  ·intro y0 y1 y2 y3 y4;unfold slices_insertionSortCmpFunc_int.l0
   repeat' first
   | (with_reducible first | exact l5 _ _ _ _ _ | exact l6 _ _ _ _ _ _ | exact api_Frac_1.mono _ _ _ _ _ | exact LeO.refl _ | exact LeO.none _ | refine LeO.ite ?_ ?_ | refine LeO.bind ?_ (fun _=>?_))
   | exact LeO.none _ | refine LeO.ite ?_ ?_ | refine LeO.bind ?_ (fun _=>?_)
  intro y0 y1 y2 y3 y4 y5;unfold slices_insertionSortCmpFunc_int.l1
  repeat' first
  | (with_reducible first | exact l5 _ _ _ _ _ | exact l6 _ _ _ _ _ _ | exact api_Frac_1.mono _ _ _ _ _ | exact LeO.refl _ | exact LeO.none _ | refine LeO.ite ?_ ?_ | refine LeO.bind ?_ (fun _=>?_))
  | exact LeO.none _ | refine LeO.ite ?_ ?_ | refine LeO.bind ?_ (fun _=>?_)
theorem slices_insertionSortCmpFunc_int.mono:∀ a0 a1 a2 a3 k,LeO (slices_insertionSortCmpFunc_int.f k a0 a1 a2 a3) (slices_insertionSortCmpFunc_int.f (k + 1) a0 a1 a2 a3):=by
 intro a0 a1 a2 a3 k;obtain ⟨l5,l6⟩:=slices_insertionSortCmpFunc_int.mono_l k;unfold slices_insertionSortCmpFunc_int.f
 repeat' first
   | (with_reducible first | exact l5 _ _ _ _ _ | exact l6 _ _ _ _ _ _ | exact api_Frac_1.mono _ _ _ _ _ | exact LeO.refl _ | exact LeO.none _ | refine LeO.ite ?_ ?_ | refine LeO.bind ?_ (fun _=>?_))
   | exact LeO.none _ | refine LeO.ite ?_ ?_ | refine LeO.bind ?_ (fun _=>?_)
theorem slices_insertionSortCmpFunc_int.calls (k:Nat) (d5:Nat → Prop) (b8:Value) (l0:List Int) (a1:Int) (a2:Int) (A3:Option Addr) (c3:Nat) (l3:List (S23)) (r:List Int) (w0 w:World) (gbF gbL:Nat) (n8:∀ W_,Kept w W_ (fun k_=>d5 k_) → W_.heap[gbF]? = some (.cells #[.func (.func 85) #[] #[]] 123 (0,0))) (n9:∀ W_,Kept w W_ (fun k_=>d5 k_) → W_.heap[gbL]? = some (.cells #[.slice A3 l3.length c3] 35 (0,0))) (o0:gbF ≠ gbL) (hB:Below w0.heap.size w0 w) (o9:Kd.R (Kd.int .i64) 3 w w0.heap.size d5 b8 l0) (o1:∀ W_,Kept w W_ (fun k_=>d5 k_) → Kd.C k23 W_ A3 l3.length l3) (o2:l3.length ≤ c3) (h:slices_insertionSortCmpFunc_int.f k l0 a1 a2 l3 = some r) :
  Calls Try.prog 132 #[b8,.int .i64 a1,.int .i64 a2,.func (.func 114) #[] #[.pointer (some ⟨gbF,0,none⟩),.pointer (some ⟨gbL,0,none⟩)]] w fun e w'=>e = .returned (.tuple #[]) ∧ Kd.R (Kd.int .i64) 3 w' w0.heap.size (fun k_=>(d5 k_ ∨ w.heap.size ≤ k_)) b8 r ∧ Below w0.heap.size w0 w' ∧ Kept w w' (fun k_=>d5 k_):=by
 have p0:=A_ (show Kd.R (Kd.int .i64) 3 w w0.heap.size (fun k_=>(d5 k_ ∨ w.heap.size ≤ k_)) b8 l0 from Kd.R_mono o9 (fun k_ hk=>(.inl hk)));have BKF:=A_ n8;have BKL:=A_ n9;have NBFL:=A_ o0;clear n8 n9 o0;have o3:=A_ o1;have o4:=A_ o2;clear o1 o2;have HK:=A_ (Kept.refl w (fun k_=>d5 k_));have p9:=A_ hB.size;have HB:=A_ hB;clear hB;have H:(slices_insertionSortCmpFunc_int.l0 k l0 a1 a2 l3 (wrap64 (a1 + 1))) = some r:=h;clear h;have H':=A_ H;clear H;go_enter Try.func132,Try.ntmps132;go_wp2;go_loopg [8] k (fun kq v8 w'=>∃ (e8:List Int) (b7:Int),v8 = .int .i64 b7 ∧ Aside0 (slices_insertionSortCmpFunc_int.l0 kq e8 a1 a2 l3 b7 = some r) ∧ Aside0 (kq ≤ k) ∧ Aside0 (Kd.R (Kd.int .i64) 3 w' w0.heap.size (fun k_=>(d5 k_ ∨ w.heap.size ≤ k_)) b8 e8) ∧ Aside0 (Kept w w' (fun k_=>d5 k_)) ∧ Aside0 (Below w0.heap.size w0 w'))
 case atStart=>exact ⟨(l0),(wrap64 (a1 + 1)),rfl,H',⟨Nat.le_refl _⟩,⟨by exact p0.out⟩,⟨by repeat (first | (with_reducible first | exact HK.out | apply Kept.alloc | apply Kept.drewN | apply Kept.drew) | exact HK.out)⟩,⟨by repeat (first | (with_reducible first | exact HB.out | apply below_alloc | apply pw_below_drewN | apply below_drew1) | exact HB.out)⟩⟩
 case round =>
  clear H';obtain ⟨e8,b7,rfl,HA,h8,b2,HK,HB⟩:=hrel
  cases gk with
  | zero=>exact absurd HA.out (by simp [slices_insertionSortCmpFunc_int.l0])
  | succ k1 =>
   have H:=HA.out;clear HA;simp only [slices_insertionSortCmpFunc_int.l0] at H;by_cases c5:b7 < a2
   case neg =>
    rw [if_neg c5] at H;have l8:=decide_eq_false c5;clear c5;obtain rfl:=Option.some.inj H;go_wp2;first | go_end0 | ((try simp only [Exit.inBlock,Exit.then]);refine bodyPost_ret (results_none rfl _ _ _) rfl ?_)
    exact ⟨rfl,by exact b2.out,by repeat (first | (with_reducible first | exact HB.out | apply below_alloc | apply pw_below_drewN | apply below_drew1) | exact HB.out),by repeat (first | (with_reducible first | exact HK.out | apply Kept.alloc | apply Kept.drewN | apply Kept.drew) | exact HK.out)⟩
   rw [if_pos c5] at H;have l8:=decide_eq_true c5;clear c5;have H':=A_ H;clear H;go_wp2;go_loopg [9] k1 (fun kq v9 w'=>∃ (b0:List Int) (b1:Int),v9 = .int .i64 b1 ∧ Aside0 (slices_insertionSortCmpFunc_int.l1 kq b0 a1 a2 l3 b7 b1 = some r) ∧ Aside0 (kq ≤ k1) ∧ Aside0 (Kd.R (Kd.int .i64) 3 w' w0.heap.size (fun k_=>(d5 k_ ∨ w.heap.size ≤ k_)) b8 b0) ∧ Aside0 (Kept w w' (fun k_=>d5 k_)) ∧ Aside0 (Below w0.heap.size w0 w'))
   case atStart=>exact ⟨(e8),(b7),rfl,H',⟨Nat.le_refl _⟩,⟨by exact b2.out⟩,⟨by repeat (first | (with_reducible first | exact HK.out | apply Kept.alloc | apply Kept.drewN | apply Kept.drew) | exact HK.out)⟩,⟨by repeat (first | (with_reducible first | exact HB.out | apply below_alloc | apply pw_below_drewN | apply below_drew1) | exact HB.out)⟩⟩
   case round =>
    clear H';obtain ⟨b0,b1,rfl,HA,h9,b2,HK,HB⟩:=hrel
    cases gk with
    | zero=>exact absurd HA.out (by simp [slices_insertionSortCmpFunc_int.l1])
    | succ k2 =>
     have H:=HA.out;clear HA;simp only [slices_insertionSortCmpFunc_int.l1] at H;by_cases c6:b1 > a1
     case neg =>
      rw [if_neg c6] at H;have l9:=decide_eq_false c6;clear c6;have H':=A_ H;clear H;try go_wp2
      replace b2:=rD b2;replace HK:=A_ (Kept.drew HK.out);replace HB:=bD HB;refine start_ (n:=17) (S:=fun w'=>True) (ds:=[]) (ba 17 0) (by kernel_rfl) rfl rfl trivial (fun hHeld=>?_);generalize wr.drew = q0 at b2 HK HB hHeld ⊢;refine pr 0 18 1 ?_;refine pr 1 19 3 ?_;refine pr 2 20 7 ?_;refine pr 3 21 15 ?_;refine pv 4 22 31 ?_;refine pv 5 23 63 ?_;refine pv 6 24 127 ?_;refine pv 7 25 255 ?_;refine pv 8 26 511 ?_;refine pv 9 27 1023 ?_;refine pv 10 28 2047 ?_;refine pv 11 29 4095 ?_;refine pv 12 30 8191 ?_;refine pv 13 31 16383 ?_;refine pv 14 32 32767 ?_;refine pv 15 33 65535 ?_;refine pr 16 34 131071 ?_;refine done_ (by kernel_rfl) ?_;try go_wp2
      go_roundg k2
      case measure=>have:=h8.out;have:=h9.out;omega
      case rel=>exact ⟨(b0),(wrap64 (b7 + 1)),rfl,H',⟨by have:=h8.out;have:=h9.out;omega⟩,⟨by exact b2.out⟩,⟨by repeat (first | (with_reducible first | exact HK.out | apply Kept.alloc | apply Kept.drewN | apply Kept.drew) | exact HK.out)⟩,⟨by repeat (first | (with_reducible first | exact HB.out | apply below_alloc | apply pw_below_drewN | apply below_drew1) | exact HB.out)⟩⟩
     rw [if_pos c6] at H;have l9:=decide_eq_true c6;clear c6;replace H:=gd H;obtain ⟨c7,H⟩:=H;have p1:=decide_eq_true c7;clear c7;replace H:=gd H;obtain ⟨c8,H⟩:=H;have p2:=decide_eq_true c8;clear c8;obtain ⟨b5,d9⟩:∃ j_:Int,(wrap64 (b1 - 1)) = j_:=⟨_,rfl⟩
     replace H:(if 0 ≤ (b5) then (if (b5) < (b0.length:Int) then ((api_Frac_1.f k2 (rd b0 b1) (rd b0 (b5)) 0 l3).bind fun b9=>(if b9 < 0 then (slices_insertionSortCmpFunc_int.l1 k2 ((b0.set (b1:Int).toNat (rd b0 (b5))).set ((b5):Int).toNat (rd b0 b1)) a1 a2 l3 b7 b5) else (slices_insertionSortCmpFunc_int.l0 k2 b0 a1 a2 l3 (wrap64 (b7 + 1))))) else (none)) else (none)) = some r:=by first | (rw [d9] at H;exact H) | (simp only [d9] at H ⊢;exact H)
     have hji9w:(IntKind.i64.wrap (b1 - 1)) = b5:=(i64_w _).trans d9;replace H:=gd H;obtain ⟨c10,H⟩:=H;have o5:=decide_eq_true c10;clear c10;replace H:=gd H;obtain ⟨o6,H⟩:=H;have o7:=decide_eq_true o6;clear o6;replace H:=Option.bind_eq_some_iff.mp H;obtain ⟨b9,i1,H⟩:=H;replace H:(if b9 < 0 then (slices_insertionSortCmpFunc_int.l1 k2 ((b0.set (b1:Int).toNat (rd b0 (b5))).set ((b5):Int).toNat (rd b0 b1)) a1 a2 l3 b7 b5) else (slices_insertionSortCmpFunc_int.l0 k2 b0 a1 a2 l3 (wrap64 (b7 + 1)))) = some r:=H;have o8:=A_ i1;clear i1;by_cases i0:b9 < 0
     case neg =>
      rw [if_neg i0] at H;have i2:=decide_eq_false i0;clear i0;have H':=A_ H;clear H;try go_wp2
      replace b2:=rD b2;replace HK:=A_ (Kept.drew HK.out);replace HB:=bD HB;obtain ⟨p3,p4,i3⟩:=Kd.R_slice b2.out;(first | subst i3 | (injection i3 with i4 m0 i5;have m1:=i4.symm;have m2:=i5.symm;clear i4 m0 i5;subst m1;subst m2))
      have c0:0 ≤ (b1:Int):=of_decide_eq_true (by assumption);have c1:b1 < (b0.length:Int):=of_decide_eq_true (by assumption);obtain ⟨b6,e0,b3⟩:=Kd.at_int (Kd.R_reads' b2.out).2.2 b1 c0 c1
      cases e0;replace c0:=eq_true c0;replace c1:=eq_true c1;have d0:0 ≤ ((b5):Int):=of_decide_eq_true (by assumption);have d1:(b5) < (b0.length:Int):=of_decide_eq_true (by assumption);obtain ⟨d6,e1,b4⟩:=Kd.at_int (Kd.R_reads' b2.out).2.2 (b5) d0 d1;obtain rfl:b6 = d6:=(by injection e1)
      replace d0:=eq_true d0;replace d1:=eq_true d1;refine start_ (n:=17) (S:=fun w'=>w'.cell? (b6.add (b1).toNat) = some (.int .i64 (rd b0 b1)) ∧ w'.cell? (b6.add ((b5)).toNat) = some (.int .i64 (rd b0 (b5)))) (ds:=[]) (ba 17 0) (by kernel_rfl) rfl rfl ⟨b3,b4⟩ (fun hHeld=>?_);generalize wr.drew = q1 at b2 HK HB b3 b4 hHeld ⊢;refine pr 0 18 1 ?_;refine pr 1 19 3 ?_;refine pr 2 20 7 ?_;refine pr 3 21 15 ?_;refine pr 4 22 31 ?_;refine pr 5 23 63 ?_;refine pr 6 24 127 ?_;refine pr 7 25 255 ?_;refine pr 9 27 767 ?_;refine pr 10 28 1791 ?_;refine pr 11 29 3839 ?_;refine pr 12 30 7935 ?_;refine tr 8 26 8191 hHeld ?_;refine tr 13 31 16383 hHeld ?_;refine os 14 32 32767 (fun K hK=>?_);refine goesV_ Try.func114 (by kernel_rfl) rfl #[.int .i64 (rd b0 b1),.int .i64 (rd b0 (b5))] #[.pointer (some ⟨gbF,0,none⟩),.pointer (some ⟨gbL,0,none⟩)] 22 (by rfl) rfl rfl rfl (by (try simp only [List.map_toArray,List.map_cons,List.map_nil]);first | done | (simp only [d9];rfl) | rfl | (simp only [List.length_drop,List.length_take];rfl)) ?_;simp only [List.append_toArray,List.cons_append,List.nil_append];with_reducible refine (api_Frac_1.calls k2 (rd b0 b1) (rd b0 (b5)) 0 _ _ l3 b9 _ gbF gbL (BKF.out _ HK.out) (BKL.out _ HK.out) NBFL.out ?side1 ?side2 o8.out).mono ?_;(case side1=>exact Kd.C_kept_now o3.out HK.out)
      (case side2=>exact o4.out)
      rintro e q2 ⟨rfl,hb⟩;have m3:=(hb.cell (World.block_lt_of_cell? _ _ (hHeld.1))).trans (hHeld.1);have m4:=(hb.cell (World.block_lt_of_cell? _ _ (hHeld.2))).trans (hHeld.2);refine ⟨_,rfl,?_⟩;replace b2:=rB b2 hb;replace HK:=A_ (Kept.below (S:=(fun k_=>d5 k_)) HK.out hb);replace HB:=bB HB hb;(try clear hb)
      refine hz hK (fun hHeld=>?_);clear hK K;refine nq 32 ?_;refine pr 15 33 65535 ?_;refine pr 16 34 131071 ?_;refine done_ (by kernel_rfl) ?_;try go_wp2
      go_roundg k2
      case measure=>have:=h8.out;have:=h9.out;omega
      case rel=>exact ⟨(b0),(wrap64 (b7 + 1)),rfl,H',⟨by have:=h8.out;have:=h9.out;omega⟩,⟨by exact b2.out⟩,⟨by repeat (first | (with_reducible first | exact HK.out | apply Kept.alloc | apply Kept.drewN | apply Kept.drew) | exact HK.out)⟩,⟨by repeat (first | (with_reducible first | exact HB.out | apply below_alloc | apply pw_below_drewN | apply below_drew1) | exact HB.out)⟩⟩
     rw [if_pos i0] at H;have i2:=decide_eq_true i0;clear i0;obtain ⟨e2,d7⟩:∃ y_:List Int,y_ = (b0.set (b1:Int).toNat (rd b0 (b5))):=⟨_,rfl⟩
     replace H:(slices_insertionSortCmpFunc_int.l1 k2 (e2.set ((b5):Int).toNat (rd b0 b1)) a1 a2 l3 b7 b5) = some r:=by rw [d7];exact H
     have h0:=A_ d7;clear d7;obtain ⟨e9,d8⟩:∃ y_:List Int,y_ = (e2.set ((b5):Int).toNat (rd b0 b1)):=⟨_,rfl⟩
     replace H:(slices_insertionSortCmpFunc_int.l1 k2 e9 a1 a2 l3 b7 b5) = some r:=by rw [d8];exact H
     have h1:=A_ d8;clear d8;have H':=A_ H;clear H;try go_wp2
     replace b2:=rD b2;replace HK:=A_ (Kept.drew HK.out);replace HB:=bD HB;obtain ⟨p5,m5,i6⟩:=Kd.R_slice b2.out;(first | subst i6 | (injection i6 with i4 m0 i5;have m1:=i4.symm;have m2:=i5.symm;clear i4 m0 i5;subst m1;subst m2))
     have c0:0 ≤ (b1:Int):=of_decide_eq_true (by assumption);have c1:b1 < (b0.length:Int):=of_decide_eq_true (by assumption);obtain ⟨b6,e0,b3⟩:=Kd.at_int (Kd.R_reads' b2.out).2.2 b1 c0 c1
     cases e0;replace c0:=eq_true c0;replace c1:=eq_true c1;have d0:0 ≤ ((b5):Int):=of_decide_eq_true (by assumption);have d1:(b5) < (b0.length:Int):=of_decide_eq_true (by assumption);obtain ⟨d6,e1,b4⟩:=Kd.at_int (Kd.R_reads' b2.out).2.2 (b5) d0 d1;obtain rfl:b6 = d6:=(by injection e1)
     replace d0:=eq_true d0;replace d1:=eq_true d1;refine start_ (n:=17) (S:=fun w'=>w'.cell? (b6.add (b1).toNat) = some (.int .i64 (rd b0 b1)) ∧ w'.cell? (b6.add ((b5)).toNat) = some (.int .i64 (rd b0 (b5)))) (ds:=[]) (ba 17 0) (by kernel_rfl) rfl rfl ⟨b3,b4⟩ (fun hHeld=>?_);generalize wr.drew = q3 at b2 HK HB b3 b4 hHeld ⊢;refine pr 0 18 1 ?_;refine pr 1 19 3 ?_;refine pr 2 20 7 ?_;refine pr 3 21 15 ?_;refine pr 4 22 31 ?_;refine pr 5 23 63 ?_;refine pr 6 24 127 ?_;refine pr 7 25 255 ?_;refine pr 9 27 767 ?_;refine pr 10 28 1791 ?_;refine pr 11 29 3839 ?_;refine pr 12 30 7935 ?_;refine tr 8 26 8191 hHeld ?_;refine tr 13 31 16383 hHeld ?_;refine os 14 32 32767 (fun K hK=>?_);refine goesV_ Try.func114 (by kernel_rfl) rfl #[.int .i64 (rd b0 b1),.int .i64 (rd b0 (b5))] #[.pointer (some ⟨gbF,0,none⟩),.pointer (some ⟨gbL,0,none⟩)] 22 (by rfl) rfl rfl rfl (by (try simp only [List.map_toArray,List.map_cons,List.map_nil]);first | done | (simp only [d9];rfl) | rfl | (simp only [List.length_drop,List.length_take];rfl)) ?_;simp only [List.append_toArray,List.cons_append,List.nil_append];with_reducible refine (api_Frac_1.calls k2 (rd b0 b1) (rd b0 (b5)) 0 _ _ l3 b9 _ gbF gbL (BKF.out _ HK.out) (BKL.out _ HK.out) NBFL.out ?side1 ?side2 o8.out).mono ?_;(case side1=>exact Kd.C_kept_now o3.out HK.out)
     (case side2=>exact o4.out)
     rintro e p6 ⟨rfl,hb⟩;have m3:=(hb.cell (World.block_lt_of_cell? _ _ (hHeld.1))).trans (hHeld.1);have m4:=(hb.cell (World.block_lt_of_cell? _ _ (hHeld.2))).trans (hHeld.2);refine ⟨_,rfl,?_⟩;replace b2:=rB b2 hb;replace HK:=A_ (Kept.below (S:=(fun k_=>d5 k_)) HK.out hb);replace HB:=bB HB hb;(try clear hb)
     refine hz hK (fun hHeld=>?_);clear hK K;refine nq 32 ?_;refine pr 15 33 65535 ?_;refine pr 16 34 131071 ?_;refine done_ (by kernel_rfl) ?_;try go_wp2
     replace b2:=rD b2;replace HK:=A_ (Kept.drew HK.out);replace HB:=bD HB;have e3:0 ≤ ((b5):Int):=of_decide_eq_true (by assumption);have e4:(b5) < (b0.length:Int):=of_decide_eq_true (by assumption);obtain ⟨h2,i7,d2⟩:=Kd.at_int (Kd.R_reads' b2.out).2.2 (b5) e3 e4;obtain rfl:b6 = h2:=(by injection i7)
     replace e3:=eq_true e3;replace e4:=eq_true e4;have e5:0 ≤ (b1:Int):=of_decide_eq_true (by assumption);have e6:b1 < (b0.length:Int):=of_decide_eq_true (by assumption);obtain ⟨h3,i8,d3⟩:=Kd.at_int (Kd.R_reads' b2.out).2.2 b1 e5 e6;obtain rfl:b6 = h3:=(by injection i8)
     replace e5:=eq_true e5;replace e6:=eq_true e6;have m6:0 ≤ (b1:Int):=of_decide_eq_true (by assumption);have m7:(b1:Int) < ((b0.length:Int):Int):=of_decide_eq_true (by assumption);obtain ⟨d4,p7,i9,j5,m8,p8,j7⟩:=Kd.R_form b2.out (by omega);(first | cases i9 | (injection i9 with ea_ en_ ec_;(first | subst ea_ | (injection ea_ with ea_;subst ea_));subst ec_;clear en_))
     have j8:=A_ j5;have m9:=A_ j7;clear j5 m8 j7;have e7:=A_ (show (d5 d4 ∨ w.heap.size ≤ d4) from (b2.out.1 _ rfl));(first | simp only [add_plain] at b3 | skip)
     (first | simp only [add_plain] at b4 | skip)
     (first | simp only [add_plain] at d2 | skip)
     (first | simp only [add_plain] at d3 | skip)
     obtain ⟨h4,h5⟩:=Kd.R_celln 0 b2.out (b1:Int) m6 m7;replace m6:=eq_true m6;replace m7:=eq_true m7;have h6:=Kd.R_putn b2.out (b1:Int) (rd b0 (b5));rw [← h0.out] at h6;have j9:=A_ h6;clear h6;refine start_ (n:=18) (S:=fun w'=>w'.cell? ⟨d4,((b5)).toNat,none⟩ = some (.int .i64 (rd b0 (b5))) ∧ w'.cell? ⟨d4,(b1).toNat,none⟩ = some (.int .i64 (rd b0 b1))) (ds:=[15,17]) (ba 18 0) (by kernel_rfl) rfl rfl ⟨d2,d3⟩ (fun hHeld=>?_);generalize p6.drew = l7 at b2 HK HB m9 j9 h5 b3 b4 d2 d3 h4 hHeld ⊢;refine pr 2 39 4 ?_;refine pr 3 40 12 ?_;refine pr 4 41 28 ?_;refine pr 0 37 29 ?_;refine pr 1 38 31 ?_;refine pr 5 42 63 ?_;refine pr 6 43 127 ?_;refine pr 7 44 255 ?_;refine pr 8 45 511 ?_;refine pr 10 47 1535 ?_;refine pr 11 48 3583 ?_;refine pr 12 49 7679 ?_;refine tr 9 46 8191 hHeld ?_;refine tr 13 50 16383 hHeld ?_;refine pr 14 51 32767 ?_;refine last_ (i:=15) (N:=none) (ba 18 65535) rfl rfl (by kernel_rfl) (by decide) (fun K hK=>?_);refine skip_ (w1:=?_) (by rfl) rfl ?_ ?_;rotate_left
     ·go_simp;rfl
     refine hK.out _ _ ?_;clear hK K;have n0:Aside0 (Kd.R (Kd.int .i64) 3 (l7.setCell ⟨d4,(b1:Int).toNat,none⟩ (.int .i64 (rd b0 (b5)))) w0.heap.size (fun k_=>(d5 k_ ∨ w.heap.size ≤ k_)) (.slice (some ⟨d4,0,none⟩) b0.length m5) e2):=⟨by exact j9.out⟩
     have n1:Aside0 (Kept w (l7.setCell ⟨d4,(b1:Int).toNat,none⟩ (.int .i64 (rd b0 (b5)))) (fun k_=>d5 k_)):=⟨by repeat (first | (with_reducible first | exact HK.out | apply Kept.alloc | apply Kept.drewN | apply Kept.drew | refine Kept.setCell ?_ e7.out _) | exact HK.out)⟩
     have n2:Aside0 (Below w0.heap.size w0 (l7.setCell ⟨d4,(b1:Int).toNat,none⟩ (.int .i64 (rd b0 (b5))))):=⟨by repeat (first | (with_reducible first | exact HB.out | apply below_alloc | apply pw_below_drewN | apply below_drew1 | refine below_set ?_ j8.out) | exact HB.out)⟩
     generalize (l7.setCell ⟨d4,(b1:Int).toNat,none⟩ (.int .i64 (rd b0 (b5)))) = w21 at n0 n1 n2 ⊢;have b2:=n0;have HK:=n1;have HB:=n2;clear n0 n1 n2;have n3:0 ≤ ((b5):Int):=of_decide_eq_true (by assumption);have n4:((b5):Int) < ((b0.length:Int):Int):=of_decide_eq_true (by assumption);obtain ⟨n5,n6⟩:=Kd.R_celln 0 b2.out ((b5):Int) n3 n4;replace n3:=eq_true n3;replace n4:=eq_true n4;have h7:=Kd.R_putn b2.out ((b5):Int) (rd b0 b1);rw [← h1.out] at h7;have n7:=A_ h7;clear h7;refine pr 16 52 131071 ?_;refine last_ (i:=17) (N:=none) (ba 18 262143) rfl rfl (by kernel_rfl) (by decide) (fun K hK=>?_);refine skip_ (w1:=?_) (by rfl) rfl ?_ ?_;rotate_left
     ·go_simp;rfl
     refine hK.out _ _ ?_;clear hK K;refine done_ (by kernel_rfl) ?_;try go_wp2
     go_roundg k2
     case measure=>have:=h8.out;have:=h9.out;omega
     case rel=>exact ⟨(e9),(b5),(by first | rfl | (simp;done) | (simp only [← d9] <;> (first | rfl | simp)) | (simp [*];done)),H',⟨by have:=h8.out;have:=h9.out;omega⟩,⟨by exact n7.out⟩,⟨by repeat (first | (with_reducible first | exact HK.out | apply Kept.alloc | apply Kept.drewN | apply Kept.drew | refine Kept.setCell ?_ e7.out _) | exact HK.out)⟩,⟨by repeat (first | (with_reducible first | exact HB.out | apply below_alloc | apply pw_below_drewN | apply below_drew1 | refine below_set ?_ j8.out) | exact HB.out)⟩⟩
end Go.Proofs.Ytjohcjfmlhihbaa.G
namespace Go.Proofs.Ytjohcjfmlhihbaa.G
open Go.RowKit Go.Proofs.YtjohcjfmlhihbaaW.PrintWords Go.Proofs.YtjohcjfmlhihbaaW.PrintLast Go.Proofs.YtjohcjfmlhihbaaW.PrintMore
set_option maxHeartbeats 8000000
set_option maxRecDepth 100000
attribute [local go_sem] cond_true cond_false fld23_0 fld23_1 fld45_0 fld45_1 fld109_0 fld109_1 fld94_0 fld94_1 max2_int min2_int max_two min_two max_three min_three max_four min_four   -- for this text's walks alone
mutual
def slices_stableCmpFunc_int.l0:Nat → List Int → Int → List (S23) → Int → Option (List Int)
 | 0,_,_,_,_=>none
 | k + 1,x0,x1,x2,x7=>(slices_insertionSortCmpFunc_int.f k x0 x7 x1 x2).bind fun b2=>(slices_stableCmpFunc_int.l1 k b2)
def slices_stableCmpFunc_int.l1:Nat → List Int → Option (List Int)
 | 0,_=>none
 | k + 1,x0=>some x0
end
def slices_stableCmpFunc_int.f (k:Nat) (l0:List Int) (a1:Int) (l2:List (S23)):Option (List Int):=if a1 < 20 then slices_stableCmpFunc_int.l0 k l0 a1 l2 0 else none
theorem slices_stableCmpFunc_int.mono_l:∀ k,(∀ y0 y1 y2 y3,LeO (slices_stableCmpFunc_int.l0 k y0 y1 y2 y3) (slices_stableCmpFunc_int.l0 (k + 1) y0 y1 y2 y3)) ∧ (∀ y0,LeO (slices_stableCmpFunc_int.l1 k y0) (slices_stableCmpFunc_int.l1 (k + 1) y0))
 | 0=>⟨fun _ _ _ _ r h=>by simp [slices_stableCmpFunc_int.l0] at h,fun _ r h=>by simp [slices_stableCmpFunc_int.l1] at h⟩
 | k + 1=>by
  obtain ⟨b8,b9⟩:=slices_stableCmpFunc_int.mono_l k;refine ⟨?_,?_⟩
  ·intro y0 y1 y2 y3;unfold slices_stableCmpFunc_int.l0
   repeat' first
   | (with_reducible exact b8 _ _ _ _)
   | (with_reducible exact b9 _)
   | (with_reducible exact slices_insertionSortCmpFunc_int.mono _ _ _ _ _)
   | (with_reducible exact LeO.refl _)
   | (with_reducible exact LeO.none _)
   | (with_reducible refine LeO.ite ?_ ?_)
   | (with_reducible refine LeO.bind ?_ (fun _=>?_))
   | exact b8 _ _ _ _
   | exact b9 _
   | exact slices_insertionSortCmpFunc_int.mono _ _ _ _ _
   | exact LeO.none _
   | refine LeO.ite ?_ ?_
   | refine LeO.bind ?_ (fun _=>?_)
  intro y0;unfold slices_stableCmpFunc_int.l1
  repeat' first
  | (with_reducible exact b8 _ _ _ _)
  | (with_reducible exact b9 _)
  | (with_reducible exact slices_insertionSortCmpFunc_int.mono _ _ _ _ _)
  | (with_reducible exact LeO.refl _)
  | (with_reducible exact LeO.none _)
  | (with_reducible refine LeO.ite ?_ ?_)
  | (with_reducible refine LeO.bind ?_ (fun _=>?_))
  | exact b8 _ _ _ _
  | exact b9 _
  | exact slices_insertionSortCmpFunc_int.mono _ _ _ _ _
  | exact LeO.none _
  | refine LeO.ite ?_ ?_
  | refine LeO.bind ?_ (fun _=>?_)
theorem slices_stableCmpFunc_int.mono:∀ a0 a1 a2 k,LeO (slices_stableCmpFunc_int.f k a0 a1 a2) (slices_stableCmpFunc_int.f (k + 1) a0 a1 a2):=by
 intro a0 a1 a2 k;obtain ⟨b8,b9⟩:=slices_stableCmpFunc_int.mono_l k;unfold slices_stableCmpFunc_int.f
 repeat' first
   | (with_reducible exact b8 _ _ _ _)
   | (with_reducible exact b9 _)
   | (with_reducible exact slices_insertionSortCmpFunc_int.mono _ _ _ _ _)
   | (with_reducible exact LeO.refl _)
   | (with_reducible exact LeO.none _)
   | (with_reducible refine LeO.ite ?_ ?_)
   | (with_reducible refine LeO.bind ?_ (fun _=>?_))
   | exact b8 _ _ _ _
   | exact b9 _
   | exact slices_insertionSortCmpFunc_int.mono _ _ _ _ _
   | exact LeO.none _
   | refine LeO.ite ?_ ?_
   | refine LeO.bind ?_ (fun _=>?_)
theorem slices_stableCmpFunc_int.calls (k:Nat) (b3:Nat → Prop) (b1:Value) (l0:List Int) (a1:Int) (A2:Option Addr) (c2:Nat) (l2:List (S23)) (r:List Int) (w0 w:World) (gbF gbL:Nat) (d1:∀ W_,Kept w W_ (fun k_=>b3 k_) → W_.heap[gbF]? = some (.cells #[.func (.func 85) #[] #[]] 123 (0,0))) (d2:∀ W_,Kept w W_ (fun k_=>b3 k_) → W_.heap[gbL]? = some (.cells #[.slice A2 l2.length c2] 35 (0,0))) (d3:gbF ≠ gbL) (hB:Below w0.heap.size w0 w) (e1:Kd.R (Kd.int .i64) 3 w w0.heap.size b3 b1 l0) (d4:∀ W_,Kept w W_ (fun k_=>b3 k_) → Kd.C k23 W_ A2 l2.length l2) (d5:l2.length ≤ c2) (h:slices_stableCmpFunc_int.f k l0 a1 l2 = some r) :
  Calls Try.prog 127 #[b1,.int .i64 a1,.func (.func 114) #[] #[.pointer (some ⟨gbF,0,none⟩),.pointer (some ⟨gbL,0,none⟩)]] w fun e w'=>e = .returned (.tuple #[]) ∧ Kd.R (Kd.int .i64) 3 w' w0.heap.size (fun k_=>(b3 k_ ∨ w.heap.size ≤ k_)) b1 r ∧ Below w0.heap.size w0 w' ∧ Kept w w' (fun k_=>b3 k_):=by
 have e2:=Aside0.mk (show Kd.R (Kd.int .i64) 3 w w0.heap.size (fun k_=>(b3 k_ ∨ w.heap.size ≤ k_)) b1 l0 from Kd.R_mono e1 (fun k_ hk=>(.inl hk)));have BKF:=Aside0.mk d1;have BKL:=Aside0.mk d2;have NBFL:=Aside0.mk d3;clear d1 d2 d3;have e3:=Aside0.mk d4;have e4:=Aside0.mk d5;clear d4 d5;have HK:=Aside0.mk (Kept.refl w (fun k_=>b3 k_));have e6:=Aside0.mk hB.size;have HB:=Aside0.mk hB;clear hB;unfold slices_stableCmpFunc_int.f at h
 by_cases b5:a1 < 20
 case neg=>rw [if_neg b5] at h;cases h
 rw [if_pos b5] at h;have d20a:decide (20 ≤ a1) = false:=decide_eq_false (by omega);have d20b:decide (20 < a1) = false:=decide_eq_false (by omega);clear b5;have H:(slices_stableCmpFunc_int.l0 k l0 a1 l2 0) = some r:=h;clear h;have H':=Aside0.mk H;clear H;go_enter Try.func127,Try.ntmps127;go_wp2;go_loopg [7,8] k (fun kq v7 v8 w'=>∃ (b4:List Int) (b7:Int),v7 = .int .i64 b7 ∧ v8 = .int .i64 20 ∧ Aside0 (slices_stableCmpFunc_int.l0 kq b4 a1 l2 b7 = some r) ∧ Aside0 (kq ≤ k) ∧ Aside0 (Kd.R (Kd.int .i64) 3 w' w0.heap.size (fun k_=>(b3 k_ ∨ w.heap.size ≤ k_)) b1 b4) ∧ Aside0 (Kept w w' (fun k_=>b3 k_)) ∧ Aside0 (Below w0.heap.size w0 w'))
 case atStart=>exact ⟨(l0),(0),(by first | rfl | (simp;done) | (simp [*];done)),rfl,H',⟨Nat.le_refl _⟩,⟨by (with_reducible repeat (first | apply Kd.R_alloc | apply Kd.R_drewN | apply Kd.R_drew));exact e2.out⟩,⟨by repeat (first | (with_reducible first | exact HK.out | apply Kept.alloc | apply Kept.drewN | apply Kept.drew) | exact HK.out)⟩,⟨by repeat (first | (with_reducible first | exact HB.out | apply below_alloc | apply pw_below_drewN | apply below_drew1) | exact HB.out)⟩⟩
 case round =>
  clear H';try clear c1
  try clear c2
  try clear p2
  obtain ⟨b4,b7,rfl,rfl,HA,e7,b0,HK,HB⟩:=hrel
  cases gk with
  | zero=>exact absurd HA.out (by simp [slices_stableCmpFunc_int.l0])
  | succ k1 =>
   have H:=HA.out;clear HA;simp only [slices_stableCmpFunc_int.l0] at H;replace H:=Option.bind_eq_some_iff.mp H;obtain ⟨b2,d6,H⟩:=H;replace H:(slices_stableCmpFunc_int.l1 k1 b2) = some r:=H;have A4:=Aside0.mk d6;clear d6;have H':=Aside0.mk H;clear H;obtain ⟨c0,d0,e5⟩:=Kd.R_slice b0.out;subst e5;go_wp2_with fail;refine (slices_insertionSortCmpFunc_int.calls k1 (fun k_=>some k_ = (.slice c0 b4.length d0:Value).ownBlock) (.slice c0 b4.length d0) b4 b7 a1 _ _ l2 b2 w0 _ gbF gbL (fun W_ hk_=>BKF.out W_ (Kept.then_ (S:=(fun k_=>b3 k_)) (by repeat (first | (with_reducible first | exact HK.out | apply Kept.alloc | apply Kept.drewN | apply Kept.drew) | exact HK.out)) hk_ (fun k_ hs_=>(fun e_=>(b0.out.1 k_ e_.symm)) hs_))) (fun W_ hk_=>BKL.out W_ (Kept.then_ (S:=(fun k_=>b3 k_)) (by repeat (first | (with_reducible first | exact HK.out | apply Kept.alloc | apply Kept.drewN | apply Kept.drew) | exact HK.out)) hk_ (fun k_ hs_=>(fun e_=>(b0.out.1 k_ e_.symm)) hs_))) NBFL.out ?side1 ?side2 ?side3 ?side4 A4.out).mono ?_
   case side1=>repeat (first | (with_reducible first | exact HB.out | apply below_alloc | apply pw_below_drewN | apply below_drew1) | exact HB.out)
   case side2=>exact Kd.R_tight rfl b0.out
   case side3=>exact Kd.C_kept_call e3.out (by repeat (first | (with_reducible first | exact HK.out | apply Kept.alloc | apply Kept.drewN | apply Kept.drew) | exact HK.out)) (fun k_ hs_=>(fun e_=>(b0.out.1 k_ e_.symm)) hs_)
   case side4=>exact e4.out
   rintro e w6 ⟨rfl,d7,hb,hkp⟩;have d8:=Aside0.mk (Kd.R_reok rfl d7 (fun k_ e_=>b0.out.1 k_ e_));have d9:=Aside0.mk (Kept.then_ (S:=(fun k_=>b3 k_)) (by repeat (first | (with_reducible first | exact HK.out | apply Kept.alloc | apply Kept.drewN | apply Kept.drew) | exact HK.out)) hkp (fun k_ hs_=>(fun e_=>(b0.out.1 k_ e_.symm)) hs_));have e0:=Aside0.mk (hb);clear b0;clear HK;clear HB;have b0:=d8;have HK:=d9;have HB:=e0;clear d8 d9 e0;(try clear hb)
   (try clear hkp)
   (try clear d7)
   go_wp2_with fail;go_loopg [6] k1 (fun kq v6 w'=>v6 = .int .i64 20 ∧ Aside0 (slices_stableCmpFunc_int.l1 kq b2 = some r) ∧ Aside0 (kq ≤ k1) ∧ Aside0 (Kd.R (Kd.int .i64) 3 w' w0.heap.size (fun k_=>(b3 k_ ∨ w.heap.size ≤ k_)) (.slice c0 b4.length d0) b2) ∧ Aside0 (Kept w w' (fun k_=>b3 k_)) ∧ Aside0 (Below w0.heap.size w0 w'))
   case atStart=>exact ⟨rfl,H',⟨Nat.le_refl _⟩,⟨by (with_reducible repeat (first | apply Kd.R_alloc | apply Kd.R_drewN | apply Kd.R_drew));exact b0.out⟩,⟨by repeat (first | (with_reducible first | exact HK.out | apply Kept.alloc | apply Kept.drewN | apply Kept.drew) | exact HK.out)⟩,⟨by repeat (first | (with_reducible first | exact HB.out | apply below_alloc | apply pw_below_drewN | apply below_drew1) | exact HB.out)⟩⟩
   case round =>
    clear H';try clear c1
    try clear c2
    try clear p2
    try clear p2
    obtain ⟨rfl,HA,e8,b0,HK,HB⟩:=hrel;have b6:=(Kd.R_reads' b0.out).1;rw [b6] at b0;(try simp only [b6])
    cases gk with
    | zero=>exact absurd HA.out (by simp [slices_stableCmpFunc_int.l1])
    | succ k2 =>
     have H:=HA.out;clear HA;simp only [slices_stableCmpFunc_int.l1] at H;obtain rfl:=Option.some.inj H;go_wp2;first | go_end0 | ((try simp only [Exit.inBlock,Exit.then]);refine bodyPost_ret (results_none rfl _ _ _) rfl ?_)
     exact ⟨by first | rfl | (simp [errW_none,errW_some] <;> rfl) | (simp [*,errW_none,errW_some] <;> rfl),(by first | exact (by (with_reducible repeat (first | apply Kd.R_alloc | apply Kd.R_drewN | apply Kd.R_drew));exact b0.out) | (simp only [b6];exact (by (with_reducible repeat (first | apply Kd.R_alloc | apply Kd.R_drewN | apply Kd.R_drew));exact b0.out))),by repeat (first | (with_reducible first | exact HB.out | apply below_alloc | apply pw_below_drewN | apply below_drew1) | exact HB.out),by repeat (first | (with_reducible first | exact HK.out | apply Kept.alloc | apply Kept.drewN | apply Kept.drew) | exact HK.out)⟩
def slices_SortStableFunc_int_int.f (k:Nat) (l0:List Int) (l1:List (S23)):Option (List Int):=(slices_stableCmpFunc_int.f k l0 (l0.length:Int) l1).bind fun b0=>(some b0)
theorem slices_SortStableFunc_int_int.mono:∀ a0 a1 k,LeO (slices_SortStableFunc_int_int.f k a0 a1) (slices_SortStableFunc_int_int.f (k + 1) a0 a1):=by
 intro a0 a1 k;unfold slices_SortStableFunc_int_int.f
 repeat' first
   | (with_reducible exact slices_stableCmpFunc_int.mono _ _ _ _)
   | (with_reducible exact LeO.refl _)
   | (with_reducible exact LeO.none _)
   | (with_reducible refine LeO.ite ?_ ?_)
   | (with_reducible refine LeO.bind ?_ (fun _=>?_))
   | exact slices_stableCmpFunc_int.mono _ _ _ _
   | exact LeO.none _
   | refine LeO.ite ?_ ?_
   | refine LeO.bind ?_ (fun _=>?_)
theorem slices_SortStableFunc_int_int.calls (k:Nat) (b2:Nat → Prop) (b1:Value) (l0:List Int) (A1:Option Addr) (c1:Nat) (l1:List (S23)) (r:List Int) (w0 w:World) (gbF gbL:Nat) (b4:∀ W_,Kept w W_ (fun k_=>b2 k_) → W_.heap[gbF]? = some (.cells #[.func (.func 85) #[] #[]] 123 (0,0))) (b5:∀ W_,Kept w W_ (fun k_=>b2 k_) → W_.heap[gbL]? = some (.cells #[.slice A1 l1.length c1] 35 (0,0))) (b6:gbF ≠ gbL) (hB:Below w0.heap.size w0 w) (d5:Kd.R (Kd.int .i64) 3 w w0.heap.size b2 b1 l0) (b7:∀ W_,Kept w W_ (fun k_=>b2 k_) → Kd.C k23 W_ A1 l1.length l1) (b8:l1.length ≤ c1) (h:slices_SortStableFunc_int_int.f k l0 l1 = some r) :
  Calls Try.prog 113 #[b1,.func (.func 114) #[] #[.pointer (some ⟨gbF,0,none⟩),.pointer (some ⟨gbL,0,none⟩)]] w fun e w'=>e = .returned (.tuple #[]) ∧ Kd.R (Kd.int .i64) 3 w' w0.heap.size (fun k_=>(b2 k_ ∨ w.heap.size ≤ k_)) b1 r ∧ Below w0.heap.size w0 w' ∧ Kept w w' (fun k_=>b2 k_):=by
 have b3:=Aside0.mk (show Kd.R (Kd.int .i64) 3 w w0.heap.size (fun k_=>(b2 k_ ∨ w.heap.size ≤ k_)) b1 l0 from Kd.R_mono d5 (fun k_ hk=>(.inl hk)));have BKF:=Aside0.mk b4;have BKL:=Aside0.mk b5;have NBFL:=Aside0.mk b6;clear b4 b5 b6;have d6:=Aside0.mk b7;have d7:=Aside0.mk b8;clear b7 b8;have HK:=Aside0.mk (Kept.refl w (fun k_=>b2 k_));have d9:=Aside0.mk hB.size;have HB:=Aside0.mk hB;clear hB;have H:((slices_stableCmpFunc_int.f k l0 (l0.length:Int) l1).bind fun b0=>(some b0)) = some r:=h;clear h;replace H:=Option.bind_eq_some_iff.mp H;obtain ⟨b0,b9,H⟩:=H;replace H:(some b0) = some r:=H;have A3:=Aside0.mk b9;clear b9;obtain rfl:=Option.some.inj H;obtain ⟨c0,d0,d8⟩:=Kd.R_slice b3.out;subst d8;go_enter Try.func113,Try.ntmps113;go_wp2_with fail;refine (slices_stableCmpFunc_int.calls k (fun k_=>some k_ = (.slice c0 l0.length d0:Value).ownBlock) (.slice c0 l0.length d0) l0 (l0.length:Int) _ _ l1 b0 w0 _ gbF gbL (fun W_ hk_=>BKF.out W_ (Kept.then_ (S:=(fun k_=>b2 k_)) (by repeat (first | (with_reducible first | exact HK.out | apply Kept.alloc | apply Kept.drewN | apply Kept.drew) | exact HK.out)) hk_ (fun k_ hs_=>(fun e_=>(b3.out.1 k_ e_.symm)) hs_))) (fun W_ hk_=>BKL.out W_ (Kept.then_ (S:=(fun k_=>b2 k_)) (by repeat (first | (with_reducible first | exact HK.out | apply Kept.alloc | apply Kept.drewN | apply Kept.drew) | exact HK.out)) hk_ (fun k_ hs_=>(fun e_=>(b3.out.1 k_ e_.symm)) hs_))) NBFL.out ?side1 ?side2 ?side3 ?side4 A3.out).mono ?_
 case side1=>repeat (first | (with_reducible first | exact HB.out | apply below_alloc | apply pw_below_drewN | apply below_drew1) | exact HB.out)
 case side2=>exact Kd.R_tight rfl b3.out
 case side3=>exact Kd.C_kept_call d6.out (by repeat (first | (with_reducible first | exact HK.out | apply Kept.alloc | apply Kept.drewN | apply Kept.drew) | exact HK.out)) (fun k_ hs_=>(fun e_=>(b3.out.1 k_ e_.symm)) hs_)
 case side4=>exact d7.out
 rintro e w5 ⟨rfl,d1,hb,hkp⟩;have d2:=Aside0.mk (Kd.R_reok rfl d1 (fun k_ e_=>b3.out.1 k_ e_));have d3:=Aside0.mk (Kept.then_ (S:=(fun k_=>b2 k_)) (by repeat (first | (with_reducible first | exact HK.out | apply Kept.alloc | apply Kept.drewN | apply Kept.drew) | exact HK.out)) hkp (fun k_ hs_=>(fun e_=>(b3.out.1 k_ e_.symm)) hs_));have d4:=Aside0.mk (hb);clear b3;clear HK;clear HB;have b3:=d2;have HK:=d3;have HB:=d4;clear d2 d3 d4;(try clear hb)
 (try clear hkp)
 (try clear d1)
 go_wp2_with fail;first | go_end0 | ((try simp only [Exit.inBlock,Exit.then]);refine bodyPost_ret (results_none rfl _ _ _) rfl ?_)
 exact ⟨by first | rfl | (simp [errW_none,errW_some] <;> rfl) | (simp [*,errW_none,errW_some] <;> rfl),by (with_reducible repeat (first | apply Kd.R_alloc | apply Kd.R_drewN | apply Kd.R_drew));exact b3.out,by repeat (first | (with_reducible first | exact HB.out | apply below_alloc | apply pw_below_drewN | apply below_drew1) | exact HB.out),by repeat (first | (with_reducible first | exact HK.out | apply Kept.alloc | apply Kept.drewN | apply Kept.drew) | exact HK.out)⟩
def by_compare.l0:Nat → List Int → Int → Int → List (S23) → Option (List Int)
 | 0,_,_,_,_=>none
 | k + 1,x5,x8,x9,d0=>if x9 < x8 then (if x5.length < 17592186044416 then (by_compare.l0 k (x5 ++ [x9]) x8 (wrap64 (x9 + 1)) d0) else (none)) else ((slices_SortStableFunc_int_int.f k x5 d0).bind fun d2=>(some d2))
def by_compare.f (k:Nat) (l0:List (S23)):Option (List Int):=by_compare.l0 k ([]:List Int) (l0.length:Int) 0 l0
theorem by_compare.mono_l:∀ k,(∀ y0 y1 y2 y3,LeO (by_compare.l0 k y0 y1 y2 y3) (by_compare.l0 (k + 1) y0 y1 y2 y3))
 | 0=>fun _ _ _ _ r h=>by simp [by_compare.l0] at h
 | k + 1=>by
  have e0:=by_compare.mono_l k;intro y0 y1 y2 y3;unfold by_compare.l0
  repeat' first
  | (with_reducible exact e0 _ _ _ _)
  | (with_reducible exact slices_SortStableFunc_int_int.mono _ _ _)
  | (with_reducible exact LeO.refl _)
  | (with_reducible exact LeO.none _)
  | (with_reducible refine LeO.ite ?_ ?_)
  | (with_reducible refine LeO.bind ?_ (fun _=>?_))
  | exact e0 _ _ _ _
  | exact slices_SortStableFunc_int_int.mono _ _ _
  | exact LeO.none _
  | refine LeO.ite ?_ ?_
  | refine LeO.bind ?_ (fun _=>?_)
theorem by_compare.mono:∀ a0 k,LeO (by_compare.f k a0) (by_compare.f (k + 1) a0):=by
 intro a0 k;have e0:=by_compare.mono_l k;unfold by_compare.f
 repeat' first
   | (with_reducible exact e0 _ _ _ _)
   | (with_reducible exact slices_SortStableFunc_int_int.mono _ _ _)
   | (with_reducible exact LeO.refl _)
   | (with_reducible exact LeO.none _)
   | (with_reducible refine LeO.ite ?_ ?_)
   | (with_reducible refine LeO.bind ?_ (fun _=>?_))
   | exact e0 _ _ _ _
   | exact slices_SortStableFunc_int_int.mono _ _ _
   | exact LeO.none _
   | refine LeO.ite ?_ ?_
   | refine LeO.bind ?_ (fun _=>?_)
theorem by_compare.calls (k:Nat) (A0:Option Addr) (c0:Nat) (l0:List (S23)) (r:List Int) (w:World) (e9:Kd.C k23 w A0 l0.length l0) (h0:l0.length ≤ c0) (h:by_compare.f k l0 = some r) :
  Calls Try.prog 84 #[.slice A0 l0.length c0,.func (.func 85) #[] #[]] w fun e w'=>∃ h1:Value,e = .returned (h1) ∧ Kd.R (Kd.int .i64) 3 w' w.heap.size (fun _=>True) h1 r ∧ Below w.heap.size w w':=by
 have h8:=A_ e9;have h9:=A_ h0;clear e9 h0;have HB:=A_ (Below.refl w.heap.size w);have H:(by_compare.l0 k ([]:List Int) (l0.length:Int) 0 l0) = some r:=h;clear h;have H':=A_ H;clear H;go_enter Try.func84,Try.ntmps84;go_wp2_with (first | ((with_reducible refine gate_dst (N:=2) rfl ?_);refine box_event ?hg (N:=2) ?hd (cs:=#[.slice A0 l0.length c0]) (t:=35) ?hr ?_;(case hd=>rfl);(case hg=>rfl);(case hr=>first | (go_simp;done) | (go_simp;rfl));intro b5 hg w2 hbox hb;have b0:=A_ hbox;have d4:=gw hg HB;have b8:=d4;replace HB:=bB HB hb;clear hb hbox hg) | ((with_reducible refine gate_dst (N:=3) rfl ?_);refine box_event ?hg (N:=3) ?hd (cs:=#[.func (.func 85) #[] #[]]) (t:=123) ?hr ?_;(case hd=>rfl);(case hg=>rfl);(case hr=>first | (go_simp;done) | (go_simp;rfl));intro d1 hg w3 hbox hb;have b1:=A_ hbox;have d5:=gw hg HB;have b9:=d5;have b4:=nl hg b0;have b2:=ng hg b0;replace b0:=kB b0 hb;replace HB:=bB HB hb;clear hb hbox hg;have i0:=b4.out;have i1:=b2.out;have d6:w3.cell? ⟨b5,0,none⟩ = some (.slice A0 l0.length c0):=cz b0 0;have d7:=blk_frozen b0.out 0));go_loopg [5,9] k (fun kq v5 v9 w'=>∃ (c1:List Int) (b6:Int),v9 = .int .i64 b6 ∧ Aside0 (by_compare.l0 kq c1 (l0.length:Int) b6 l0 = some r) ∧ Aside0 (kq ≤ k) ∧ Aside0 (Kd.R (Kd.int .i64) 3 w' w.heap.size (fun _=>True) v5 c1) ∧ Aside0 (w'.heap[b5]? = some (.cells #[(.slice A0 l0.length c0)] 35 (0,0))) ∧ Aside0 (w'.heap[d1]? = some (.cells #[.func (.func 85) #[] #[]] 123 (0,0))) ∧ Aside0 (Below w.heap.size w w'))
 case atStart=>exact ⟨(([]:List Int)),(0),(by first | rfl | (simp;done) | (simp [*];done)),H',⟨Nat.le_refl _⟩,⟨by first | exact Kd.R_nil _ _ _ _ _ | exact Kd.N_nil _ _ _ _ _ | exact Kd.V_nil _ _ _ _ _ | exact Kd.Q_nil _ _ _ _ _ | exact Kd.S_nil _ _ _ _ _⟩,⟨by (with_reducible repeat (first | refine blk_drewN ?_ _ | refine blk_drew ?_ | refine blk_alloc ?_ _));exact b0.out⟩,⟨by (with_reducible repeat (first | refine blk_drewN ?_ _ | refine blk_drew ?_ | refine blk_alloc ?_ _));exact b1.out⟩,⟨by repeat (first | (with_reducible first | exact HB.out | apply below_alloc | apply pw_below_drewN | apply below_drew1 | refine below_set ?_ b8.out | refine below_set ?_ b9.out) | exact HB.out)⟩⟩
 case round =>
  clear H';try clear p2
  try clear c4
  try clear d6
  try clear d7
  obtain ⟨c1,b6,rfl,HA,h2,b3,b0,b1,HB⟩:=hrel
  cases gk with
  | zero=>exact absurd HA.out (by simp [by_compare.l0])
  | succ k1 =>
   have H:=HA.out;clear HA;simp only [by_compare.l0] at H;by_cases c6:b6 < (l0.length:Int)
   case neg =>
    rw [if_neg c6] at H;have e5:decide (b6 < (l0.length:Int)) = false:=decide_eq_false c6;clear c6;replace H:=Option.bind_eq_some_iff.mp H;obtain ⟨d2,h3,H⟩:=H;replace H:(some d2) = some r:=H;have A9:=A_ h3;clear h3;obtain rfl:=Option.some.inj H;have h4:=b4.out;have h5:=b2.out;have e3:wr.cell? ⟨b5,0,none⟩ = some (.slice A0 l0.length c0):=cz b0 0;have e4:=blk_frozen b0.out 0;obtain ⟨e1,e2,e6⟩:=Kd.R_slice b3.out;subst e6;go_wp2_with fail;refine (slices_SortStableFunc_int_int.calls k1 (fun k_=>some k_ = (.slice e1 c1.length e2:Value).ownBlock) (.slice e1 c1.length e2) c1 _ _ l0 d2 w _ d1 b5 (fun W_ hk_=>blk_kept (kb b1) hk_ (fun hs_=>(fun e_=>(Kd.R_ne b3.out b1.out (by decide)) e_) hs_)) (fun W_ hk_=>blk_kept (kb b0) hk_ (fun hs_=>(fun e_=>(Kd.R_ne b3.out b0.out (by decide)) e_) hs_)) b2.out ?side1 ?side2 ?side3 ?side4 A9.out).mono ?_
    case side1=>repeat (first | (with_reducible first | exact HB.out | apply below_alloc | apply pw_below_drewN | apply below_drew1 | refine below_set ?_ b8.out | refine below_set ?_ b9.out) | exact HB.out)
    case side2=>exact Kd.R_tight rfl b3.out
    case side3=>exact Kd.C_kept_came k23_heap h8.out (bl HB) (fun k_ hs_=>(fun e_=>Kd.R_base b3.out k_ e_.symm) hs_)
    case side4=>exact h9.out
    rintro e i2 ⟨rfl,h6,hb,hkp⟩;replace b0:=A_ (blk_kept (kb b0) hkp (fun hs_=>(fun e_=>(Kd.R_ne b3.out b0.out (by decide)) e_) hs_));replace b1:=A_ (blk_kept (kb b1) hkp (fun hs_=>(fun e_=>(Kd.R_ne b3.out b1.out (by decide)) e_) hs_));replace b3:=A_ (Kd.R_reok rfl h6 (fun k_ e_=>b3.out.1 k_ e_));replace HB:=A_ hb;(try clear hb)
    (try clear hkp)
    (try clear h6)
    go_wp2_with fail;go_ret;exact ⟨_,by first | rfl | (simp [errW_none,errW_some] <;> rfl) | (simp [*,errW_none,errW_some] <;> rfl),by (with_reducible repeat (first | apply Kd.R_alloc | apply Kd.R_drewN | apply Kd.R_drew));exact b3.out,by repeat (first | (with_reducible first | exact HB.out | apply below_alloc | apply pw_below_drewN | apply below_drew1 | refine below_set ?_ b8.out | refine below_set ?_ b9.out) | exact HB.out)⟩
   rw [if_pos c6] at H;have e5:decide (b6 < (l0.length:Int)) = true:=decide_eq_true c6;clear c6;by_cases c7:c1.length < 17592186044416
   case neg =>
    rw [if_neg c7] at H;exact absurd H (by simp)
   rw [if_pos c7] at H;have e7:=A_ c7;clear c7;obtain ⟨d3,b7⟩:∃ y_:List Int,y_ = (c1 ++ [b6]):=⟨_,rfl⟩
   replace H:(by_compare.l0 k1 d3 (l0.length:Int) (wrap64 (b6 + 1)) l0) = some r:=by first | (rw [b7];with_reducible exact H) | (have e8:=(Option.bind_some _ _).symm.trans H;rw [b7];with_reducible exact e8) | (have e8:=(Option.bind_some _ _).symm.trans H;with_reducible exact e8) | with_reducible exact H | (rw [b7];exact H) | exact H
   have d8:=A_ b7;clear b7;have H':=A_ H;clear H;go_wp2_with (first | ((with_reducible refine gate_builtin (b:=.append) (xs:=#[.tmp 12,.tmp 14]) rfl ?_);at_builtin;refine Kd.R_append (Kd.int .i64) (w0:=w) w.heap.size rfl (.tmp 12) (.tmp 14) 28 3 (.int .i64 0) 8 rfl Try.underlying28 info3 rfl (by decide) (by omega) u5 c1 b6 [.int .i64 b6] (fun _=>True) (fun _=>False) rfl rfl ?aP (fun _ hk=>hk.elim) ?aF ?aO ?aB ?aS ?aL ?_;(case aP=>exact rfl);(case aB=>exact (bl HB));(case aF=>exact (fun _ _=>trivial));(case aO=>exact (rs b3));(case aS=>exact (below_size (bl HB)));(case aL=>have:=e7.out;omega);intro h7 w8 ho hb hg hat;rw [← d8.out] at ho;have d9:=A_ ho;replace b0:=A_ (blk_grown (g:=b5) (o:=.cells #[.slice A0 l0.length c0] 35 (0,0)) (kb b0) hg (Kd.R_ne b3.out b0.out (by decide)));replace b1:=A_ (blk_grown (g:=d1) (o:=.cells #[.func (.func 85) #[] #[]] 123 (0,0)) (kb b1) hg (Kd.R_ne b3.out b1.out (by decide)));replace HB:=A_ hb;clear b3;clear ho hb hg hat));go_roundg k1
   case measure=>have:=h2.out;omega
   case rel=>exact ⟨(d3),(wrap64 (b6 + 1)),(by first | rfl | (simp;done) | (simp [*];done)),H',⟨by have:=h2.out;omega⟩,⟨by (with_reducible repeat (first | apply Kd.R_alloc | apply Kd.R_drewN | apply Kd.R_drew));exact d9.out⟩,⟨by (with_reducible repeat (first | refine blk_drewN ?_ _ | refine blk_drew ?_ | refine blk_alloc ?_ _));exact b0.out⟩,⟨by (with_reducible repeat (first | refine blk_drewN ?_ _ | refine blk_drew ?_ | refine blk_alloc ?_ _));exact b1.out⟩,⟨by repeat (first | (with_reducible first | exact HB.out | apply below_alloc | apply pw_below_drewN | apply below_drew1 | refine below_set ?_ b8.out | refine below_set ?_ b9.out) | exact HB.out)⟩⟩
end Go.Proofs.Ytjohcjfmlhihbaa.G
namespace Go.Proofs.Ytjohcjfmlhihbaa.P
open Go Go.RowKit Go.Proofs.Ytjohcjfmlhihbaa.G
open Go.Proofs.YtjohcjfmlhihbaaW.PrintWords Go.Proofs.YtjohcjfmlhihbaaW.PrintMore
def encQ (q:Rat):S23:=⟨q.num,(q.den:Int)⟩
def encL (l:List Rat):List S23:=l.map encQ
theorem encL_length (l:List Rat):(encL l).length = l.length:=List.length_map _
theorem rdE {l:List Rat} {i:Nat} (h:i < l.length):rd_T23 (encL l) (i:Int) = encQ l[i]:=by
 unfold rd_T23 encL
 simp [h]
def nI (l:List Nat):List Int:=l.map Int.ofNat
theorem nI_length (l:List Nat):(nI l).length = l.length:=List.length_map _
theorem rdN {l:List Nat} {i:Nat} (h:i < l.length):rd (nI l) (i:Int) = (l[i]:Int):=by
 unfold rd nI
 simp [h]
section
variable {q:List Rat} (hf:∀ x ∈ q,∀ y ∈ q,Fits x y) (hn:q.length < 20)
structure On (q:List Rat) (σ:List Nat) (m j:Nat):Prop where
 perm:σ.Perm (List.range q.length)
 ord:∀ a b,a < b → b < m → b ≠ j → q.getD (σ.getD a 0) 0 ≤ q.getD (σ.getD b 0) 0
theorem On.len {q:List Rat} {σ:List Nat} {m j:Nat} (h:On q σ m j):σ.length = q.length:=by rw [h.perm.length_eq,List.length_range]
theorem On.lt {q:List Rat} {σ:List Nat} {m j:Nat} (h:On q σ m j) {i:Nat} (hi:i < σ.length):σ[i] < q.length:=List.mem_range.1 (h.perm.mem_iff.1 (List.getElem_mem hi))
include hf
theorem ev_less {a b:Nat} (ha:a < q.length) (hb:b < q.length):Ev (fun k=>api_Frac_1.f k (a:Int) (b:Int) 0 (encL q)) (cmpR q[a] q[b]):=by
 unfold api_Frac_1.f
 rw [encL_length]
 simp only [if_pos (show (0:Int) ≤ (a:Int) by omega),if_pos (show (a:Int) < (q.length:Int) by omega),if_pos (show (0:Int) ≤ (b:Int) by omega),if_pos (show (b:Int) < (q.length:Int) by omega),rdE ha,rdE hb]
 exact Ev.bind (ev_compare (hf _ (List.getElem_mem ha) _ (List.getElem_mem hb))) (Ev.now _)
include hn
theorem sort_l1 {i:Nat} (hi:i < q.length) (Q:List Nat → Prop)
  (out:∀ σ,On q σ (i + 1) (i + 1) → ∃ τ,Q τ ∧ Ev (fun k=>slices_insertionSortCmpFunc_int.l0 k (nI σ) 0 (q.length:Int) (encL q) ((i + 1:Nat):Int)) (nI τ)) :
  ∀ (j:Nat) (σ:List Nat),j ≤ i → On q σ (i + 1) j → ∃ τ,Q τ ∧ Ev (fun k=>slices_insertionSortCmpFunc_int.l1 k (nI σ) 0 (q.length:Int) (encL q) (i:Int) (j:Int)) (nI τ):=by
 intro j
 induction j with
 | zero =>
  intro σ _ h
  obtain ⟨τ,hτ,he⟩:=out σ ⟨h.perm,fun a b hab hb _=>h.ord a b hab hb (by omega)⟩
  refine ⟨τ,hτ,Ev.step (fun k=>?_) he⟩
  rw [slices_insertionSortCmpFunc_int.l1,if_neg (by omega),wrap_succ (by omega)]
 | succ j ih =>
  intro σ hj h
  have hlen:=h.len
  have hj1:j + 1 < σ.length:=by omega
  have hj0:j < σ.length:=by omega
  have l1:=h.lt hj1
  have l0:=h.lt hj0
  have hev:=ev_less hf l1 l0
  have ew:wrap64 (((j + 1:Nat):Int) - 1) = (j:Int):=by unfold wrap64;omega
  have g1:σ.getD (j + 1) 0 = σ[j + 1]:=by simp [hj1]
  have g0:σ.getD j 0 = σ[j]:=by simp [hj0]
  have v1:q.getD σ[j + 1] 0 = q[σ[j + 1]]:=by simp [l1]
  have v0:q.getD σ[j] 0 = q[σ[j]]:=by simp [l0]
  have start:∀ k,slices_insertionSortCmpFunc_int.l1 (k + 1) (nI σ) 0 (q.length:Int) (encL q) (i:Int) ((j + 1:Nat):Int) = (api_Frac_1.f k ((σ[j + 1]:Nat):Int) ((σ[j]:Nat):Int) 0 (encL q)).bind fun t=>if t < 0 then slices_insertionSortCmpFunc_int.l1 k (((nI σ).set (j + 1) ((σ[j]:Nat):Int)).set j ((σ[j + 1]:Nat):Int)) 0 (q.length:Int) (encL q) (i:Int) (j:Int) else slices_insertionSortCmpFunc_int.l0 k (nI σ) 0 (q.length:Int) (encL q) ((i + 1:Nat):Int):=by
   intro k
   rw [slices_insertionSortCmpFunc_int.l1,ew,nI_length,if_pos (by omega),if_pos (by omega),if_pos (by omega),if_pos (by omega),if_pos (by omega),rdN hj1,rdN hj0,Int.toNat_natCast,Int.toNat_natCast,wrap_succ (by omega)]
  by_cases hlt:q[σ[j + 1]] < q[σ[j]]
  ·obtain ⟨σ',hσ'⟩:∃ σ',σ' = (σ.set (j + 1) σ[j]).set j σ[j + 1]:=⟨_,rfl⟩
   have hget:∀ a,σ'.getD a 0 = if a = j then σ[j + 1] else if a = j + 1 then σ[j] else σ.getD a 0:=by
    intro a
    rw [hσ']
    simp only [List.getD_eq_getElem?_getD,List.getElem?_set]
    by_cases e1:a = j
    ·subst e1;simp [hj0]
    ·rw [if_neg (fun e=>e1 e.symm),if_neg e1]
     by_cases e2:a = j + 1
     ·subst e2;simp [hj1]
     ·rw [if_neg (fun e=>e2 e.symm),if_neg e2]
   have hp:σ'.Perm σ:=by rw [hσ'];exact List.set_set_perm (i:=j + 1) (j:=j) hj1 hj0
   have hon:On q σ' (i + 1) j:=⟨hp.trans h.perm,fun a b hab hb hbj=>by
    rw [hget a,hget b,if_neg hbj]
    by_cases b1:b = j + 1
    ·rw [if_pos b1]
     by_cases a1:a = j
     ·rw [if_pos a1,v1,v0];exact Rat.le_of_lt hlt
     ·rw [if_neg a1,if_neg (by omega),← g0]
      exact h.ord a j (by omega) (by omega) (by omega)
    ·rw [if_neg b1]
     by_cases a1:a = j
     ·rw [if_pos a1,← g1]
      exact h.ord (j + 1) b (by omega) hb (by omega)
     ·rw [if_neg a1]
      by_cases a2:a = j + 1
      ·rw [if_pos a2,← g0]
       exact h.ord j b (by omega) hb (by omega)
      ·rw [if_neg a2]
       exact h.ord a b hab hb b1⟩
   obtain ⟨τ,hτ,he⟩:=ih σ' (by omega) hon
   refine ⟨τ,hτ,Ev.step start (Ev.bind hev ?_)⟩
   refine Ev.congr (fun k=>if_pos ((cmpR_lt _ _).2 hlt)) ?_
   have e:((nI σ).set (j + 1) ((σ[j]:Nat):Int)).set j ((σ[j + 1]:Nat):Int) = nI σ':=by
    rw [hσ']
    unfold nI
    rw [List.map_set,List.map_set]
    rfl
   rw [e]
   exact he
  ·obtain ⟨τ,hτ,he⟩:=out σ ⟨h.perm,fun a b hab hb _=>by
    by_cases b1:b = j + 1
    ·subst b1
     have hle:q[σ[j]] ≤ q[σ[j + 1]]:=by grind
     by_cases a1:a = j
     ·rw [a1,g0,g1,v0,v1];exact hle
     ·have:=h.ord a j (by omega) (by omega) (by omega)
      rw [g0,v0] at this
      rw [g1,v1]
      exact Rat.le_trans this hle
    ·exact h.ord a b hab hb b1⟩
   refine ⟨τ,hτ,Ev.step start (Ev.bind hev ?_)⟩
   exact Ev.congr (fun k=>if_neg (fun e=>hlt ((cmpR_lt _ _).1 e))) he
theorem sort_l0:∀ (d i:Nat) (σ:List Nat),i + d = q.length → On q σ i i → ∃ τ,On q τ q.length q.length ∧ Ev (fun k=>slices_insertionSortCmpFunc_int.l0 k (nI σ) 0 (q.length:Int) (encL q) (i:Int)) (nI τ):=by
 intro d
 induction d with
 | zero =>
  intro i σ hi h
  have:i = q.length:=by omega
  subst this
  refine ⟨σ,h,Ev.step (f:=fun _=>some (nI σ)) (fun k=>?_) (Ev.now _)⟩
  rw [slices_insertionSortCmpFunc_int.l0,if_neg (by omega)]
 | succ d ih =>
  intro i σ hi h
  obtain ⟨τ,hτ,he⟩:=sort_l1 hf hn (i:=i) (by omega) (fun τ=>On q τ q.length q.length) (fun σ' h'=>ih (i + 1) σ' (by omega) h') i σ (Nat.le_refl _) ⟨h.perm,fun a b hab hb hbi=>h.ord a b hab (by omega) hbi⟩
  refine ⟨τ,hτ,Ev.step (fun k=>?_) he⟩
  rw [slices_insertionSortCmpFunc_int.l0,if_pos (by omega)]
theorem by_l0:∀ (d i:Nat),i + d = q.length → ∃ τ,On q τ q.length q.length ∧ Ev (fun k=>by_compare.l0 k (nI (List.range i)) (q.length:Int) (i:Int) (encL q)) (nI τ):=by
 intro d
 induction d with
 | zero =>
  intro i hi
  have:i = q.length:=by omega
  subst this
  have hs:∃ τ,On q τ q.length q.length ∧ Ev (fun k=>slices_insertionSortCmpFunc_int.l0 k (nI (List.range q.length)) 0 (q.length:Int) (encL q) 1) (nI τ):=by
   by_cases h0:q.length = 0
   ·refine ⟨List.range q.length,⟨List.Perm.refl _,fun a b _ hb _=>by omega⟩,Ev.step (f:=fun _=>some (nI (List.range q.length))) (fun k=>?_) (Ev.now _)⟩
    rw [slices_insertionSortCmpFunc_int.l0,if_neg (by omega)]
   ·obtain ⟨τ,hτ,he⟩:=sort_l0 hf hn (q.length - 1) 1 (List.range q.length) (by omega) ⟨List.Perm.refl _,fun a b hab hb _=>by omega⟩
    exact ⟨τ,hτ,he⟩
  obtain ⟨τ,hτ,he⟩:=hs
  refine ⟨τ,hτ,Ev.step (f:=fun k=>(slices_SortStableFunc_int_int.f k (nI (List.range q.length)) (encL q)).bind fun t=>some t) (fun k=>?_) (Ev.bind ?_ (Ev.now _))⟩
  ·rw [by_compare.l0,if_neg (by omega)]
  ·unfold slices_SortStableFunc_int_int.f slices_stableCmpFunc_int.f
   rw [nI_length,List.length_range]
   refine Ev.bind (a:=nI τ) ?_ (Ev.now _)
   refine Ev.congr (fun k=>if_pos (by omega)) ?_
   refine Ev.step (f:=fun k=>(slices_insertionSortCmpFunc_int.f k (nI (List.range q.length)) 0 (q.length:Int) (encL q)).bind fun t=>slices_stableCmpFunc_int.l1 k t) (fun k=>rfl) (Ev.bind (a:=nI τ) ?_ ?_)
   ·unfold slices_insertionSortCmpFunc_int.f
    have:wrap64 ((0:Int) + 1) = 1:=wrap_id (by omega) (by omega)
    rw [this]
    exact he
   ·exact Ev.step (f:=fun _=>some (nI τ)) (fun k=>rfl) (Ev.now _)
 | succ d ih =>
  intro i hi
  obtain ⟨τ,hτ,he⟩:=ih (i + 1) (by omega)
  refine ⟨τ,hτ,Ev.step (fun k=>?_) he⟩
  rw [by_compare.l0,if_pos (by omega),if_pos (by rw [nI_length,List.length_range];omega),wrap_succ (by omega)]
  congr 1
  unfold nI
  rw [List.range_succ,List.map_append]
  rfl
theorem ev_by:∃ τ:List Nat,τ.Perm (List.range q.length) ∧ (τ.map fun i=>q.getD i 0).Pairwise (· ≤ ·) ∧ Ev (fun k=>by_compare.f k (encL q)) (nI τ):=by
 obtain ⟨τ,hτ,he⟩:=by_l0 hf hn q.length 0 (by omega)
 refine ⟨τ,hτ.perm,?_,?_⟩
 ·rw [List.pairwise_iff_getElem]
  intro a b ha hb hab
  rw [List.length_map] at ha hb
  rw [List.getElem_map,List.getElem_map]
  have:=hτ.ord a b hab (by rw [← hτ.len];exact hb) (by rw [← hτ.len];omega)
  simpa [ha,hb] using this
 ·unfold by_compare.f
  rw [encL_length]
  exact he
end
end Go.Proofs.Ytjohcjfmlhihbaa.P
namespace Go.Proofs.Ytjohcjfmlhihbaa.G
open Go.RowKit Go.Proofs.YtjohcjfmlhihbaaW.PrintWords Go.Proofs.YtjohcjfmlhihbaaW.PrintLast Go.Proofs.YtjohcjfmlhihbaaW.PrintMore
set_option maxHeartbeats 8000000
set_option maxRecDepth 100000
attribute [local go_sem] cond_true cond_false fld23_0 fld23_1 fld45_0 fld45_1 fld109_0 fld109_1 fld94_0 fld94_1 max2_int min2_int max_two min_two max_three min_three max_four min_four
def shares_equal.l0:Nat → List (S23) → List (S23) → Int → List Int → Int → Int → Int → Int → Option ((List (S23)))
 | 0,_,_,_,_,_,_,_,_=>none
 | k + 1,x0,x5,x6,i7,x16,h0,e1,e2=>if h0 < x16 then (if 0 ≤ h0 then (if h0 < (i7.length:Int) then (if 0 ≤ (rd i7 h0) then (if (rd i7 h0) < (x0.length:Int) then ((shares_over.f k e1 e2 x6).bind fun h1=>((shares_smaller.f k ((rd_T23 x0 (rd i7 h0)).f0) ((rd_T23 x0 (rd i7 h0)).f1) h1.1 h1.2).bind fun h2=>(if (rd i7 h0) < (x5.length:Int) then ((some (x5.set ((rd i7 h0):Int).toNat (⟨h2.1,h2.2⟩:S23):List (S23))).bind fun b7=>((shares_minus.f k e1 e2 ((rd_T23 b7 (rd i7 h0)).f0) ((rd_T23 b7 (rd i7 h0)).f1)).bind fun d8=>(shares_equal.l0 k x0 b7 (wrap64 (x6 - 1)) i7 x16 (wrap64 (h0 + 1)) d8.1 d8.2))) else (none)))) else (none)) else (none)) else (none)) else (none)) else (some x5)
def shares_equal.f (k:Nat) (l0:List (S23)) (d9:Int) (e0:Int):Option ((List (S23))):=if 0 ≤ (l0.length:Int) then (if ((l0.length:Int):Int).toNat ≤ 17592186044416 then ((by_compare.f k l0).bind fun b0=>(shares_equal.l0 k l0 (List.replicate ((l0.length:Int):Int).toNat z23) (l0.length:Int) b0 (b0.length:Int) 0 d9 e0)) else (none)) else (none)
theorem shares_equal.mono_l:∀ k,(∀ y0 y1 y2 y3 y4 y5 y6 y7,LeO (shares_equal.l0 k y0 y1 y2 y3 y4 y5 y6 y7) (shares_equal.l0 (k + 1) y0 y1 y2 y3 y4 y5 y6 y7))
 | 0=>fun _ _ _ _ _ _ _ _ r h=>by simp [shares_equal.l0] at h
 | k + 1=>by
  have n2:=shares_equal.mono_l k;intro y0 y1 y2 y3 y4 y5 y6 y7;unfold shares_equal.l0
  repeat' first
  | (with_reducible first | exact n2 _ _ _ _ _ _ _ _ | exact by_compare.mono _ _ | exact shares_minus.mono _ _ _ _ _ | exact shares_over.mono _ _ _ _ | exact shares_smaller.mono _ _ _ _ _ | exact LeO.refl _ | exact LeO.none _ | refine LeO.ite ?_ ?_ | refine LeO.bind ?_ (fun _=>?_))
  | exact LeO.none _ | refine LeO.ite ?_ ?_ | refine LeO.bind ?_ (fun _=>?_)
theorem shares_equal.mono:∀ a0 a1 a2 k,LeO (shares_equal.f k a0 a1 a2) (shares_equal.f (k + 1) a0 a1 a2):=by
 intro a0 a1 a2 k;have n2:=shares_equal.mono_l k;unfold shares_equal.f
 repeat' first
   | (with_reducible first | exact n2 _ _ _ _ _ _ _ _ | exact by_compare.mono _ _ | exact shares_minus.mono _ _ _ _ _ | exact shares_over.mono _ _ _ _ | exact shares_smaller.mono _ _ _ _ _ | exact LeO.refl _ | exact LeO.none _ | refine LeO.ite ?_ ?_ | refine LeO.bind ?_ (fun _=>?_))
   | exact LeO.none _ | refine LeO.ite ?_ ?_ | refine LeO.bind ?_ (fun _=>?_)
def shares_equal.T6:Bool × List (List Nat × List Nat):=(true,[([],[]),([],[]),([],[]),([],[]),([2,3],[2,3]),([4],[4]),([],[]),([],[]),([6,7],[6,7]),([5,8,8],[5,8]),([0,1,0,1,2,3,4,5,6,7,8,9],[0,1]),([10,9,9,0,1,2,3,4,5,6,7,8,9],[9,10])])
def shares_equal.B6:List Nat:=[0,0,0,0,12,28,0,0,192,508,1023,2047]
theorem shares_equal.tab6:rtab .any (opsOf Try.f122 6) = shares_equal.T6:=by kernel_rfl
theorem shares_equal.bits6:waitsOk shares_equal.T6.2 shares_equal.B6 = true:=by kernel_rfl
theorem shares_equal.calls (k:Nat) (A0:Option Addr) (c0:Nat) (l0:List (S23)) (d9:Int) (e0:Int) (r:List (S23)) (w:World) (p1:Kd.C k23 w A0 l0.length l0) (p2:l0.length ≤ c0) (h:shares_equal.f k l0 d9 e0 = some r) :
  Calls Try.prog 122 #[.slice A0 l0.length c0,.agg #[.int .i64 d9,.int .i64 e0]] w fun e w'=>∃ p3:Value,e = .returned (p3) ∧ Kd.R k23 23 w' w.heap.size (fun _=>True) p3 r ∧ Below w.heap.size w w':=by
 have r1:=Try.underlying23;have p4:=A_ p1;have r2:=A_ p2;clear p1 p2;have HB:=A_ (Below.refl w.heap.size w);have H:(if 0 ≤ (l0.length:Int) then (if ((l0.length:Int):Int).toNat ≤ 17592186044416 then ((by_compare.f k l0).bind fun b0=>(shares_equal.l0 k l0 (List.replicate ((l0.length:Int):Int).toNat z23) (l0.length:Int) b0 (b0.length:Int) 0 d9 e0)) else (none)) else (none)) = some r:=h;clear h;replace H:=gd H;obtain ⟨c3,H⟩:=H;have r3:=eq_true c3;have r4:=decide_eq_true c3;clear c3;replace H:=gd H;obtain ⟨c4,H⟩:=H;have r5:=eq_true c4;have r6:=decide_eq_true c4;clear c4;obtain ⟨h3,e4⟩:∃ y_:List (S23),y_ = (List.replicate ((l0.length:Int):Int).toNat z23):=⟨_,rfl⟩
 replace H:((by_compare.f k l0).bind fun b0=>(shares_equal.l0 k l0 h3 (l0.length:Int) b0 (b0.length:Int) 0 d9 e0)) = some r:=by rw [e4];exact H
 have h4:=A_ e4;clear e4;replace H:=Option.bind_eq_some_iff.mp H;obtain ⟨b0,p5,H⟩:=H;replace H:(shares_equal.l0 k l0 h3 (l0.length:Int) b0 (b0.length:Int) 0 d9 e0) = some r:=H;have A5:=A_ p5;clear p5;have H':=A_ H;clear H;go_enter Try.func122,Try.ntmps122;go_wp2_with (first | ((with_reducible refine gate_dst (N:=3) rfl ?_);refine bx 3 #[.int .i64 d9,.int .i64 e0] 23 ?_;intro b5 hg w6 hbox hb;have b2:=A_ hbox;have j5:=gw hg HB;have n3:=j5;replace HB:=bB HB hb;clear hb hbox hg) | ((with_reducible refine gate_dst (N:=11) rfl ?_);refine Kd.R_make k23 _ 23 rfl (N:=11) rfl 35 _ _ rfl (l0.length:Int) rfl rfl Try.underlying35 (.agg #[(.int .i64 0),(.int .i64 0)]) 16 info23 rfl (by decide) (by omega) z23 (ok:=fun _=>True) (okp:=fun _=>True) (k23_mkM _ _ _ z23 ) (fun _ hk=>hk) trivial (of_decide_eq_true (by assumption)) (Nat.le_trans (Nat.mul_le_mul_right _ (of_decide_eq_true (by assumption):(l0.length:Int).toNat ≤ 17592186044416)) (by omega)) (Below.refl _ _) (Nat.le_refl _) ?_;intro l6 w7 l7 hb hg_ hnew_;clear hg_ hnew_;(first | rw [← h4.out] at l7 | (simp only [Int.reduceToNat] at l7;rw [← h4.out] at l7));have e5:=A_ (Kd.R_lower (Kd.R_newB l7 (g:=b5) (o:=.cells #[.int .i64 d9,.int .i64 e0] 23 (0,0)) b2.out) (below_size HB.out));replace b2:=kB b2 hb;replace HB:=bB HB hb;clear hb l7) | ((with_reducible refine gate_callee (f:=84) rfl ?_);refine gL (some 15) Try.func84 #[.slice A0 l0.length c0,.func (.func 85) #[] #[]] ?_;(with_reducible refine (by_compare.calls k _ _ l0 b0 _ ?side1 ?side2 A5.out).mono ?_);(case side1=>exact cB p4 HB);(case side2=>exact r2.out);rintro e w9 ⟨p6,rfl,r7,hb⟩;refine ⟨_,rfl,?_⟩;have h5:=A_ (Kd.R_lower r7 (below_size HB.out));replace e5:=rB e5 hb;replace b2:=kB b2 hb;replace HB:=bB HB hb;(try clear hb);obtain ⟨n4,l8,n5⟩:=Kd.R_slice h5.out;subst n5));go_loopg [6,17] k (fun kq v6 r8 w'=>∃ (d7:List (S23)) (e6:Int) (b1:Int) (b4:Int) (b3:Int),v6 = .int .i64 e6 ∧ r8 = .int .i64 b1 ∧ Aside0 (shares_equal.l0 kq l0 d7 e6 b0 (b0.length:Int) b1 b4 b3 = some r) ∧ Aside0 (kq ≤ k) ∧ Aside0 (Kd.R k23 23 w' w.heap.size (fun k_=>k_ ≠ b5) l6 d7) ∧ Aside0 (Kd.R (Kd.int .i64) 3 w' w.heap.size (fun _=>True) (.slice n4 b0.length l8) b0) ∧ Aside0 (w'.heap[b5]? = some (.cells #[.int .i64 b4,.int .i64 b3] 23 (0,0))) ∧ Aside0 (Below w.heap.size w w'))
 case atStart=>exact ⟨(h3),((l0.length:Int)),(0),(d9),(e0),rfl,rfl,H',⟨Nat.le_refl _⟩,⟨by exact Kd.R_mono e5.out (fun _ hk=>hk.2)⟩,⟨by exact h5.out⟩,⟨by exact b2.out⟩,⟨bl HB⟩⟩
 case round =>
  clear H';obtain ⟨d7,e6,b1,b4,b3,rfl,rfl,HA,p7,b6,b8,b2,HB⟩:=hrel
  cases gk with
  | zero=>exact absurd HA.out (by simp [shares_equal.l0])
  | succ k1 =>
   have H:=HA.out;clear HA;simp only [shares_equal.l0] at H;by_cases l5:b1 < (b0.length:Int)
   case neg =>
    rw [if_neg l5] at H;have l9:=decide_eq_false l5;clear l5;obtain rfl:=Option.some.inj H;go_wp2;go_ret;exact ⟨_,rfl,by exact Kd.R_mono b6.out (fun _ hk=>trivial),bl HB⟩
   rw [if_pos l5] at H;have l9:=decide_eq_true l5;clear l5;replace H:=gd H;obtain ⟨p8,H⟩:=H;have p9:=decide_eq_true p8;clear p8;replace H:=gd H;obtain ⟨q0,H⟩:=H;have q1:=decide_eq_true q0;clear q0;replace H:=gd H;obtain ⟨q2,H⟩:=H;have q3:=decide_eq_true q2;clear q2;replace H:=gd H;obtain ⟨q4,H⟩:=H;have q5:=decide_eq_true q4;clear q4;replace H:=Option.bind_eq_some_iff.mp H;obtain ⟨⟨h6,h7⟩,A160,H⟩:=H;dsimp only at H;have r9:=A_ A160;clear A160;replace H:=Option.bind_eq_some_iff.mp H;obtain ⟨⟨d1,d2⟩,A170,H⟩:=H;dsimp only at H;have s0:=A_ A170;clear A170;replace H:=gd H;obtain ⟨q6,H⟩:=H;have q7:=decide_eq_true q6;clear q6;obtain ⟨b7,e7⟩:∃ y_:List (S23),y_ = (d7.set ((rd b0 b1):Int).toNat (⟨d1,d2⟩:S23)):=⟨_,rfl⟩
   replace H:((shares_minus.f k1 b4 b3 ((rd_T23 b7 (rd b0 b1)).f0) ((rd_T23 b7 (rd b0 b1)).f1)).bind fun d8=>(shares_equal.l0 k1 l0 b7 (wrap64 (e6 - 1)) b0 (b0.length:Int) (wrap64 (b1 + 1)) d8.1 d8.2)) = some r:=by rw [e7];exact H
   have h8:=A_ e7;clear e7;replace H:=Option.bind_eq_some_iff.mp H;obtain ⟨⟨e3,e9⟩,A200,H⟩:=H;dsimp only at H;have s1:=A_ A200;clear A200;have H':=A_ H;clear H;have h9:0 ≤ (b1:Int):=of_decide_eq_true (by assumption);have i0:b1 < (b0.length:Int):=of_decide_eq_true (by assumption);obtain ⟨j7,m0,m1⟩:=Kd.at_int (Kd.R_reads' b8.out).2.2 b1 h9 i0
   cases m0;replace h9:=eq_true h9;replace i0:=eq_true i0;try go_wp2
   replace b6:=rD b6;replace b8:=rD b8;replace b2:=kD b2;replace HB:=bD HB;have i1:0 ≤ ((rd b0 b1):Int):=of_decide_eq_true (by assumption);have i2:(rd b0 b1) < (l0.length:Int):=of_decide_eq_true (by assumption);obtain ⟨e8,m2,d3,d4⟩:=at_T23 p4.out (rd b0 b1) i1 i2;have b9:=d4;have c1:=d3
   cases m2;replace d3:=(HB.out.cell (World.block_lt_of_cell? w _ d3)).trans d3;replace d4:=(HB.out.cell (World.block_lt_of_cell? w _ d4)).trans d4;replace i1:=eq_true i1;replace i2:=eq_true i2;refine start_ (n:=12) (S:=fun w'=>w'.cell? ⟨b5,0,none⟩ = some (.int .i64 b4) ∧ w'.cell? ⟨b5,1,none⟩ = some (.int .i64 b3) ∧ w'.cell? (e8.add (((rd b0 b1)).toNat * 2)) = some (.int .i64 ((rd_T23 l0 (rd b0 b1)).f0)) ∧ w'.cell? ⟨(e8.add (((rd b0 b1)).toNat * 2)).block,(e8.add (((rd b0 b1)).toNat * 2)).off + 1,none⟩ = some (.int .i64 ((rd_T23 l0 (rd b0 b1)).f1))) (ds:=[11]) (ba 12 0) (by kernel_rfl) rfl rfl ⟨cz b2 0,cz b2 1,((HB.out.cell (World.block_lt_of_cell? w _ c1)).trans c1),((HB.out.cell (World.block_lt_of_cell? w _ b9)).trans b9)⟩ (fun hHeld=>?_);refine with_tabW shares_equal.tab6 shares_equal.bits6 (fun HT_ HW_=>?_);generalize wr.drew = t1 at b6 b8 b2 HB d3 d4 hHeld ⊢;refine pq 0 21 1 HT_ ?_;refine pq 1 22 3 HT_ ?_;refine pq 2 23 7 HT_ ?_;refine pq 3 24 15 HT_ ?_;refine pq 4 25 31 HT_ ?_;refine pq 7 28 159 HT_ ?_;refine tq 5 26 191 HT_ HW_ hHeld ?_;refine tq 6 27 255 HT_ HW_ hHeld ?_;refine oq 8 29 511 HT_ (fun K hK=>?_);refine gq Try.func96 #[.agg #[.int .i64 b4,.int .i64 b3],.int .i64 e6] ?_;with_reducible refine (shares_over.calls k1 b4 b3 e6 h6 h7 _ r9.out).mono ?_;rintro e t2 ⟨rfl,hb⟩;refine ⟨_,rfl,?_⟩;replace b6:=rB b6 hb;replace b8:=rB b8 hb;replace b2:=kB b2 hb;replace HB:=bB HB hb;(try clear hb)
   refine hK.out _ _ ⟨cz b2 0,cz b2 1,((HB.out.cell (World.block_lt_of_cell? w _ c1)).trans c1),((HB.out.cell (World.block_lt_of_cell? w _ b9)).trans b9)⟩ (fun hHeld=>?_);clear hK K;refine nq 29 ?_;refine oq 9 30 1023 HT_ (fun K hK=>?_);refine gq Try.func129 #[.agg #[.int .i64 ((rd_T23 l0 (rd b0 b1)).f0),.int .i64 ((rd_T23 l0 (rd b0 b1)).f1)],.agg #[.int .i64 h6,.int .i64 h7]] ?_;with_reducible refine (shares_smaller.calls k1 ((rd_T23 l0 (rd b0 b1)).f0) ((rd_T23 l0 (rd b0 b1)).f1) h6 h7 d1 d2 _ s0.out).mono ?_;rintro e m3 ⟨rfl,hb⟩;refine ⟨_,rfl,?_⟩;replace b6:=rB b6 hb;replace b8:=rB b8 hb;replace b2:=kB b2 hb;replace HB:=bB HB hb;(try clear hb)
   have n6:0 ≤ ((rd b0 b1):Int):=of_decide_eq_true (by assumption);have n7:((rd b0 b1):Int) < ((d7.length:Int):Int):=of_decide_eq_true (by assumption);obtain ⟨d0,n8,m4,m5,n9,s2,m6⟩:=Kd.R_form b6.out (by omega);(first | cases m4 | (injection m4 with ea_ en_ ec_;(first | subst ea_ | (injection ea_ with ea_;subst ea_));subst ec_;clear en_))
   have s3:=A_ m5;have o0:=A_ m6;clear m5 n9 m6;obtain ⟨s4,m7,m8,i3,i4⟩:=Kd.R_elem b6.out z23 ((rd b0 b1):Int) n6 n7;obtain rfl:=k23_openM m8;have o1:World.cell? _ ⟨d0,((rd b0 b1):Int).toNat * 2,none⟩ = some (.int .i64 ((rd_T23 d7 (rd b0 b1)).f0)):=i3 0 _ rfl;have o2:World.cell? _ ⟨d0,((rd b0 b1):Int).toNat * 2 + 1,none⟩ = some (.int .i64 ((rd_T23 d7 (rd b0 b1)).f1)):=i3 1 _ rfl;have o3:World.frozen? _ ⟨d0,((rd b0 b1):Int).toNat * 2,none⟩ = false:=i4 0;have o4:World.frozen? _ ⟨d0,((rd b0 b1):Int).toNat * 2 + 1,none⟩ = false:=i4 1;clear m7 i3 i4 m8;replace n6:=eq_true n6;replace n7:=eq_true n7;obtain ⟨s5,i8,m9,i9,n0⟩:=Kd.R_elem b6.out z23 ((rd b0 b1):Int) (of_decide_eq_true (by assumption)) (by have h_:((rd b0 b1):Int) < ((d7.length:Int):Int):=of_decide_eq_true (by assumption);first | exact h_ | (have e_:=(Kd.R_reads' b6.out).1;omega) | simpa using h_);obtain rfl:=k23_openM m9;have j8:=(Kd.R_seg b6.out ((rd b0 b1):Int) (of_decide_eq_true (by assumption)) (by have h_:((rd b0 b1):Int) < ((d7.length:Int):Int):=of_decide_eq_true (by assumption);first | exact h_ | (have e_:=(Kd.R_reads' b6.out).1;omega) | simpa using h_) (seg:=[.int .i64 d1,.int .i64 d2]) (j:=0) i8 i9 (show 2 ≤ 2 from by decide) (x':=(⟨d1,d2⟩:S23)) (k23_mkM _ _ _ (⟨d1,d2⟩:S23) ) (fun _ hk=>hk)).1;rw [← h8.out] at j8;have o5:=A_ j8;clear i8 i9 n0 m9 j8;refine hK.out _ _ ⟨cz b2 0,cz b2 1,((HB.out.cell (World.block_lt_of_cell? w _ c1)).trans c1),((HB.out.cell (World.block_lt_of_cell? w _ b9)).trans b9)⟩ (fun hHeld=>?_);clear hK K;refine nq 30 ?_;refine pq 10 31 2047 HT_ ?_;refine last_ (i:=11) (N:=none) (ba 12 4095) rfl rfl (one_of HT_.out (by kernel_rfl)) (by decide) (fun K hK=>?_);refine skip_ (w1:=?_) (by rfl) rfl ?_ ?_;rotate_left
   ·go_simp;rfl
   refine hK.out _ _ ?_;clear hK K;refine done_ (done_of HT_.out (by kernel_rfl)) ?_;have o6:Aside0 (Kd.R k23 23 ((m3.setCell ⟨d0,((rd b0 b1):Int).toNat * 2,none⟩ (.int .i64 d1)).setCell ⟨d0,((rd b0 b1):Int).toNat * 2 + 1,none⟩ (.int .i64 d2)) w.heap.size (fun k_=>k_ ≠ b5) (.slice (some ⟨d0,0,none⟩) d7.length n8) b7):=⟨by exact o5.out⟩
   have o7:Aside0 (Kd.R (Kd.int .i64) 3 ((m3.setCell ⟨d0,((rd b0 b1):Int).toNat * 2,none⟩ (.int .i64 d1)).setCell ⟨d0,((rd b0 b1):Int).toNat * 2 + 1,none⟩ (.int .i64 d2)) w.heap.size (fun _=>True) (.slice (some j7) b0.length l8) b0):=⟨by exact Kd.R_mono (Kd.R_far (p:=⟨d0,((rd b0 b1):Int).toNat * 2 + 1,none⟩) (Kd.R_far (p:=⟨d0,((rd b0 b1):Int).toNat * 2,none⟩) (Kd.R_types b8.out o0.out (by decide)) (fun _ hk=>hk.2) (.int .i64 d1)) (fun _ hk=>hk.2) (.int .i64 d2)) (fun _ hk=>trivial)⟩
   have o8:Aside0 (((m3.setCell ⟨d0,((rd b0 b1):Int).toNat * 2,none⟩ (.int .i64 d1)).setCell ⟨d0,((rd b0 b1):Int).toNat * 2 + 1,none⟩ (.int .i64 d2)).heap[b5]? = some (.cells #[.int .i64 b4,.int .i64 b3] 23 (0,0))):=⟨by refine blk_far ?_ (by have h_:=Kd.R_away b6.out (fun _ hk=>hk);intro e_;exact h_ (by rw [e_];rfl)) _;refine blk_far ?_ (by have h_:=Kd.R_away b6.out (fun _ hk=>hk);intro e_;exact h_ (by rw [e_];rfl)) _;exact b2.out⟩
   have o9:Aside0 (Below w.heap.size w ((m3.setCell ⟨d0,((rd b0 b1):Int).toNat * 2,none⟩ (.int .i64 d1)).setCell ⟨d0,((rd b0 b1):Int).toNat * 2 + 1,none⟩ (.int .i64 d2))):=⟨bl HB⟩
   generalize ((m3.setCell ⟨d0,((rd b0 b1):Int).toNat * 2,none⟩ (.int .i64 d1)).setCell ⟨d0,((rd b0 b1):Int).toNat * 2 + 1,none⟩ (.int .i64 d2)) = s6 at o6 o7 o8 o9 ⊢;have b6:=o6;have b8:=o7;have b2:=o8;have HB:=o9;clear o6 o7 o8 o9;try go_wp2
   replace b6:=rD b6;replace b8:=rD b8;replace b2:=kD b2;replace HB:=bD HB;have i5:0 ≤ ((rd b0 b1):Int):=of_decide_eq_true (by assumption);have i6:(rd b0 b1) < (b7.length:Int):=(by have h_:((rd b0 b1):Int) < ((d7.length:Int):Int):=of_decide_eq_true (by assumption);first | (have e_:=(Kd.R_reads' b6.out).1;omega) | simpa only [h8.out,List.length_set] using h_)
   have p0:(((rd b0 b1):Int) < ((d7.length:Int):Int)) = True:=eq_true (of_decide_eq_true (by assumption));obtain ⟨j9,n1,d5,d6⟩:=at_T23 (Kd.R_reads' b6.out).2.2 (rd b0 b1) i5 i6;obtain rfl:(⟨d0,0,none⟩:Addr) = j9:=(by injection n1)
   (first | simp only [add_plain] at d5 | simp only [add_at] at d5 | simp only [Addr.add,Nat.zero_add] at d5 | skip)
   (first | simp only [add_plain] at d6 | simp only [add_at] at d6 | simp only [Addr.add,Nat.zero_add] at d6 | skip)
   replace i5:=eq_true i5;replace i6:=eq_true i6;refine start_ (n:=7) (S:=fun w'=>w'.cell? ⟨b5,0,none⟩ = some (.int .i64 b4) ∧ w'.cell? ⟨b5,1,none⟩ = some (.int .i64 b3) ∧ w'.cell? ⟨d0,((rd b0 b1)).toNat * 2,none⟩ = some (.int .i64 ((rd_T23 b7 (rd b0 b1)).f0)) ∧ w'.cell? ⟨d0,((rd b0 b1)).toNat * 2 + 1,none⟩ = some (.int .i64 ((rd_T23 b7 (rd b0 b1)).f1))) (ds:=[6]) (ba 7 0) (by kernel_rfl) rfl rfl ⟨cz b2 0,cz b2 1,d5,d6⟩ (fun hHeld=>?_);generalize s6.drew = t3 at b6 b8 b2 HB d5 d6 hHeld ⊢;refine pr 1 33 2 ?_;refine pr 2 34 6 ?_;refine pr 3 35 14 ?_;refine tr 0 32 15 hHeld ?_;refine tr 4 36 31 hHeld ?_;refine os 5 37 63 (fun K hK=>?_);refine gq Try.func95 #[.agg #[.int .i64 b4,.int .i64 b3],.agg #[.int .i64 ((rd_T23 b7 (rd b0 b1)).f0),.int .i64 ((rd_T23 b7 (rd b0 b1)).f1)]] ?_;with_reducible refine (shares_minus.calls k1 b4 b3 ((rd_T23 b7 (rd b0 b1)).f0) ((rd_T23 b7 (rd b0 b1)).f1) e3 e9 _ s1.out).mono ?_;rintro e q8 ⟨rfl,hb⟩;have s7:=(hb.cell (World.block_lt_of_cell? _ _ (hHeld.2.2.1))).trans (hHeld.2.2.1);have s8:=(hb.cell (World.block_lt_of_cell? _ _ (hHeld.2.2.2))).trans (hHeld.2.2.2);refine ⟨_,rfl,?_⟩;replace b6:=rB b6 hb;replace b8:=rB b8 hb;replace b2:=kB b2 hb;replace HB:=bB HB hb;(try clear hb)
   refine hz hK (fun hHeld=>?_);clear hK K;refine nq 37 ?_;refine last_ (i:=6) (N:=none) (ba 7 127) rfl rfl (by kernel_rfl) (by decide) (fun K hK=>?_);have s9:q8.cell? ⟨b5,0,none⟩ = some (.int .i64 b4):=cz b2 0;have q9:=blk_frozen b2.out 0;have t0:q8.cell? ⟨b5,1,none⟩ = some (.int .i64 b3):=cz b2 1;have r0:=blk_frozen b2.out 1;refine skip_ (w1:=?_) (by rfl) rfl ?_ ?_;rotate_left
   ·go_simp;rfl
   refine hK.out _ _ ?_;clear hK K;refine done_ (by kernel_rfl) ?_;try go_wp2
   go_roundg k1
   case measure=>have:=p7.out;omega
   case rel=>exact ⟨(b7),(wrap64 (e6 - 1)),(wrap64 (b1 + 1)),(e3),(e9),rfl,rfl,H',⟨by have:=p7.out;omega⟩,⟨by exact Kd.R_mono (Kd.R_far (p:=⟨b5,1,none⟩) (Kd.R_far (p:=⟨b5,0,none⟩) (Kd.R_mono b6.out (fun k_ hk=>(⟨hk,hk⟩:_ ∧ k_ ≠ b5))) (fun _ hk=>hk.2) (.int .i64 e3)) (fun _ hk=>hk.2) (.int .i64 e9)) (fun _ hk=>hk.1)⟩,⟨by exact Kd.R_mono (Kd.R_far (p:=⟨b5,1,none⟩) (Kd.R_far (p:=⟨b5,0,none⟩) (Kd.R_types b8.out b2.out (by decide)) (fun _ hk=>hk.2) (.int .i64 e3)) (fun _ hk=>hk.2) (.int .i64 e9)) (fun _ hk=>trivial)⟩,⟨by refine blk_put (cs:=#[.int .i64 e3,.int .i64 b3]) ?_ 1 _ rfl;refine blk_put (cs:=#[.int .i64 b4,.int .i64 b3]) ?_ 0 _ rfl;exact b2.out⟩,⟨bl HB⟩⟩
end Go.Proofs.Ytjohcjfmlhihbaa.G
namespace Go.Proofs.Ytjohcjfmlhihbaa.P
open Go Go.RowKit Go.Proofs.Ytjohcjfmlhihbaa.G
open Go.Proofs.YtjohcjfmlhihbaaW.PrintWords Go.Proofs.YtjohcjfmlhihbaaW.PrintMore
theorem encL_get {l:List Rat} {i:Nat} (h:i < l.length):(encL l)[i]'(by rw [encL_length];exact h) = encQ l[i]:=List.getElem_map _
def fac:Nat → Nat
 | 0=>1
 | n + 1=>(n + 1) * fac n
theorem fac_pos:∀ n,1 ≤ fac n
 | 0=>Nat.le_refl _
 | n + 1=>by rw [fac];exact Nat.mul_pos (by omega) (fac_pos n)
theorem fac_mono:∀ {a b:Nat},a ≤ b → fac a ≤ fac b
 | a,0,h=>by rw [show a = 0 by omega];exact Nat.le_refl _
 | a,b + 1,h=>by
  by_cases e:a = b + 1
  ·rw [e];exact Nat.le_refl _
  ·have:=fac_mono (a:=a) (b:=b) (by omega)
   rw [fac]
   have:1 * fac b ≤ (b + 1) * fac b:=Nat.mul_le_mul_right _ (by omega)
   omega
structure OkE (E:Rat) (D left:Nat):Prop where
 lo:0 ≤ E
 hi:E ≤ ((10000:Nat):Rat)
 den:E.den ∣ D
 two:2 ∣ D
 pos:0 < D
 small:D * fac left ≤ 7257600
structure OkC (c:Rat):Prop where
 lo:0 ≤ c
 hi:c ≤ ((1000:Nat):Rat)
 den:c.den ∣ 2
theorem num_abs {q:Rat} {B D:Nat} (h0:0 ≤ q) (h1:q ≤ (B:Rat)) (hd:q.den ≤ D):q.num.natAbs ≤ B * D:=by
 have:=num_of h0 h1 hd
 omega
theorem OkC.sm {c:Rat} (h:OkC c):Sm 2000 2 c:=⟨num_abs h.lo h.hi (den_le_of_dvd h.den (by omega)),den_le_of_dvd h.den (by omega)⟩
theorem OkE.le {E:Rat} {D left:Nat} (h:OkE E D left):D ≤ 7257600:=by
 have h1:=h.small
 have h2:D * 1 ≤ D * fac left:=Nat.mul_le_mul_left _ (fac_pos left)
 omega
theorem OkE.sm {E:Rat} {D left:Nat} (h:OkE E D left):Sm 72576000000 7257600 E:=by
 have hd:=Nat.le_trans (den_le_of_dvd h.den h.pos) h.le
 exact ⟨num_abs h.lo h.hi hd,hd⟩
theorem over_den (E:Rat) {n:Nat} (hn:0 < n):(E / (n:Rat)).den ∣ E.den * n:=by
 rw [← mk_over E hn]
 exact den_dvd _ (Nat.ne_of_gt (Nat.mul_pos (den_pos E) hn))
theorem nat_pos_rat {n:Nat} (h:0 < n):(0:Rat) < (n:Rat):=Rat.natCast_pos.2 h
theorem over_le {E:Rat} {n:Nat} (hn:0 < n) (h:0 ≤ E):0 ≤ E / (n:Rat) ∧ E / (n:Rat) ≤ E:=by
 have hp:=nat_pos_rat hn
 have h1:(1:Rat) ≤ (n:Rat):=by
  have:((1:Nat):Rat) ≤ (n:Rat):=Rat.natCast_le_natCast.2 hn
  simpa using this
 have hm:E / (n:Rat) * (n:Rat) = E:=Rat.div_mul_cancel (by grind)
 have h0:0 ≤ E / (n:Rat):=by
  refine Rat.le_of_mul_le_mul_right (c:=(n:Rat)) ?_ hp
  rw [hm];grind
 refine ⟨h0,?_⟩
 have:=Rat.mul_le_mul_of_nonneg_left h1 h0
 rw [hm] at this
 grind
section
variable {E c:Rat} {D n:Nat} (h:OkE E D (n + 1)) (hc:OkC c)
include h
theorem eqD:D * (n + 1) * fac n ≤ 7257600:=by
 have:=h.small
 rw [fac] at this
 rw [Nat.mul_assoc];exact this
theorem eqD':D * (n + 1) ≤ 7257600:=by
 have h1:=eqD h
 have h2:D * (n + 1) * 1 ≤ D * (n + 1) * fac n:=Nat.mul_le_mul_left _ (fac_pos n)
 omega
theorem over_dvd:(E / ((n + 1:Nat):Rat)).den ∣ D * (n + 1):=Nat.dvd_trans (over_den E (by omega)) (Nat.mul_dvd_mul_right h.den _)
theorem over_sm:Sm 72576000000 7257600 (E / ((n + 1:Nat):Rat)):=by
 have hd:=Nat.le_trans (den_le_of_dvd (over_dvd h) (Nat.mul_pos h.pos (by omega))) (eqD' h)
 have hl:=over_le (n:=n + 1) (by omega) h.lo
 exact ⟨num_abs hl.1 (Rat.le_trans hl.2 h.hi) hd,hd⟩
end
section
variable {E c:Rat} {D n:Nat} (h:OkE E D (n + 1)) (hc:OkC c)
include h hc
theorem min_dvd:(min c (E / ((n + 1:Nat):Rat))).den ∣ D * (n + 1):=by
 rw [Rat.min_def]
 split
 ·exact Nat.dvd_trans (Nat.dvd_trans hc.den h.two) (Nat.dvd_mul_right _ _)
 ·exact over_dvd h
theorem min_lohi:0 ≤ min c (E / ((n + 1:Nat):Rat)) ∧ min c (E / ((n + 1:Nat):Rat)) ≤ E:=by
 have hl:=over_le (n:=n + 1) (by omega) h.lo
 have:=hc.lo
 rw [Rat.min_def]
 split <;> grind
theorem min_sm:Sm 72576000000 7257600 (min c (E / ((n + 1:Nat):Rat))):=by
 have hd:=Nat.le_trans (den_le_of_dvd (min_dvd h hc) (Nat.mul_pos h.pos (by omega))) (eqD' h)
 have hl:=min_lohi h hc
 exact ⟨num_abs hl.1 (Rat.le_trans hl.2 h.hi) hd,hd⟩
theorem OkE.next:OkE (E - min c (E / ((n + 1:Nat):Rat))) (D * (n + 1)) n:=by
 have hl:=min_lohi h hc
 exact ⟨by grind,by have:=h.hi;grind,sub_den_dvd' (Nat.dvd_trans h.den (Nat.dvd_mul_right _ _)) (min_dvd h hc) (Nat.mul_pos h.pos (by omega)),Nat.dvd_trans h.two (Nat.dvd_mul_right _ _),Nat.mul_pos h.pos (by omega),eqD h⟩
end
def fin:List S23 → List Nat → List Rat → List S23
 | out,p :: ps,v :: vs=>fin (out.set p (encQ v)) ps vs
 | out,_,_=>out
theorem fin_length:∀ (ps:List Nat) (vs:List Rat) (out:List S23),(fin out ps vs).length = out.length
 | [],_,_=>by simp [fin]
 | _ :: _,[],_=>by simp [fin]
 | p :: ps,v :: vs,out=>by rw [fin,fin_length ps vs];simp
theorem fin_get (g:Nat → Rat):∀ (ps:List Nat) (out:List S23) (i:Nat),i < out.length → (fin out ps (ps.map g)).getD i z23 = if i ∈ ps then encQ (g i) else out.getD i z23
 | [],out,i,_=>by simp [fin]
 | p :: ps,out,i,h=>by
  rw [List.map_cons,fin,fin_get g ps _ i (by simpa using h)]
  by_cases h1:i ∈ ps
  ·rw [if_pos h1,if_pos (List.mem_cons_of_mem _ h1)]
  ·rw [if_neg h1]
   by_cases h2:i = p
   ·subst h2
    rw [if_pos (by simp)]
    simp [h]
   ·rw [if_neg (by simp [h1,h2])]
    simp only [List.getD_eq_getElem?_getD,List.getElem?_set]
    rw [if_neg (fun e=>h2 e.symm)]
section
variable {q:List Rat} (hq:∀ c ∈ q,OkC c) (hn:q.length ≤ 10)
include hq hn
theorem equal_l0 (τ:List Nat) (hτ:∀ p ∈ τ,p < q.length) (hτl:τ.length = q.length):∀ (d j:Nat) (E:Rat) (D:Nat) (out:List S23),j + d = τ.length → out.length = q.length → OkE E D d →
  Ev (fun k=>shares_equal.l0 k (encL q) out (d:Int) (nI τ) (τ.length:Int) (j:Int) E.num (E.den:Int)) (fin out (τ.drop j) (eqS E ((τ.drop j).map fun i=>q.getD i 0))):=by
 intro d
 induction d with
 | zero =>
  intro j E D out hj _ _
  refine Ev.step (f:=fun _=>some out) (fun k=>?_) ?_
  ·rw [shares_equal.l0,if_neg (by omega)]
  ·rw [List.drop_eq_nil_of_le (by omega)]
   exact Ev.now _
 | succ d ih =>
  intro j E D out hj ho h
  have hjl:j < τ.length:=by omega
  have hp:=hτ _ (List.getElem_mem hjl)
  have hc:OkC q[τ[j]]:=hq _ (List.getElem_mem hp)
  have hg:q.getD τ[j] 0 = q[τ[j]]:=by simp [hp]
  have hdl:((τ.drop (j + 1)).map fun i=>q.getD i 0).length = d:=by rw [List.length_map,List.length_drop];omega
  rw [List.drop_eq_getElem_cons hjl,List.map_cons,eqS,fin,hdl,hg]
  have e1:=ev_over E (n:=d + 1) (by omega) (Nat.lt_of_le_of_lt h.sm.num (by decide)) (Nat.lt_of_le_of_lt (Nat.le_trans (Nat.mul_le_mul_right _ (den_le_of_dvd h.den h.pos)) (eqD' h)) (by decide))
  have e2:=ev_smaller (hc.sm.fits (over_sm h) (by decide) (by decide))
  have e3:=ev_minus (h.sm.fits (min_sm h hc) (by decide) (by decide))
  have e4:=ih (j + 1) _ _ (out.set τ[j] (encQ (min q[τ[j]] (E / ((d + 1:Nat):Rat))))) (by omega) (by rw [List.length_set];exact ho) (h.next hc)
  have hrd:rd_T23 (out.set τ[j] (encQ (min q[τ[j]] (E / ((d + 1:Nat):Rat))))) ((τ[j]:Nat):Int) = encQ (min q[τ[j]] (E / ((d + 1:Nat):Rat))):=by
   unfold rd_T23
   simp [ho,hp]
  have ew:wrap64 (((d + 1:Nat):Int) - 1) = (d:Int):=by unfold wrap64;omega
  have he:(⟨(min q[τ[j]] (E / ((d + 1:Nat):Rat))).num,((min q[τ[j]] (E / ((d + 1:Nat):Rat))).den:Int)⟩:S23) = encQ (min q[τ[j]] (E / ((d + 1:Nat):Rat))):=rfl
  obtain ⟨K1,e1⟩:=e1
  obtain ⟨K2,e2⟩:=e2
  obtain ⟨K3,e3⟩:=e3
  obtain ⟨K4,e4⟩:=e4
  refine ⟨K1 + K2 + K3 + K4 + 1,fun k hk=>?_⟩
  obtain ⟨m,rfl⟩:∃ m,k = m + 1:=⟨k - 1,by omega⟩
  have f1:=e1 m (by omega)
  have f2:=e2 m (by omega)
  have f3:=e3 m (by omega)
  have f4:=e4 m (by omega)
  show shares_equal.l0 (m + 1) _ _ _ _ _ _ _ _ = _
  rw [shares_equal.l0,nI_length,encL_length,if_pos (by omega),if_pos (by omega),if_pos (by omega),rdN hjl,if_pos (by omega),if_pos (by omega),rdE hp,wrap_succ (by omega),ew]
  simp only [encQ,f1,Option.bind_some,f2]
  rw [if_pos (by omega)]
  simp only [he,Int.toNat_natCast,hrd]
  simp only [encQ,f3,Option.bind_some]
  exact f4
theorem ev_equal {E:Rat} (h0:0 ≤ E) (h1:E ≤ tot q) (hd:E.den ∣ 2):∃ x,IsEq q E x ∧ Ev (fun k=>shares_equal.f k (encL q) E.num (E.den:Int)) (encL x):=by
 have hsm:∀ x ∈ q,∀ y ∈ q,Fits x y:=fun x hx y hy=>(hq x hx).sm.fits (hq y hy).sm (by decide) (by decide)
 obtain ⟨τ,hp,hs,hb⟩:=ev_by hsm (by omega)
 have hlt:∀ p ∈ τ,p < q.length:=fun p hpm=>List.mem_range.1 (hp.mem_iff.1 hpm)
 have hl:τ.length = q.length:=by rw [hp.length_eq,List.length_range]
 have hmap:(List.range q.length).map (fun i=>q.getD i 0) = q:=by
  refine List.ext_getElem (by simp) fun i hi1 hi2=>?_
  rw [List.getElem_map,List.getElem_range]
  simp [hi2]
 have hpm:(τ.map fun i=>q.getD i 0).Perm q:=by
  have:=hp.map (fun i=>q.getD i 0)
  rw [hmap] at this
  exact this
 have ht:tot (τ.map fun i=>q.getD i 0) = tot q:=tot_perm hpm
 have hpos:∀ c ∈ τ.map fun i=>q.getD i 0,0 ≤ c:=fun c hc=>(hq c (hpm.mem_iff.1 hc)).lo
 obtain ⟨L,k1,k2,_⟩:=eqS_spec (τ.map fun i=>q.getD i 0) E hs h0 (by rw [ht];exact h1) hpos
 have hq0:∀ c ∈ q,0 ≤ c:=fun c hc=>(hq c hc).lo
 have hE:E ≤ ((10000:Nat):Rat):=by
  have a1:tot q ≤ tot (q.map fun _=>((1000:Nat):Rat)):=by
   have:=tot_le (f:=fun c=>c) (g:=fun _=>((1000:Nat):Rat)) (l:=q) (fun c hc=>(hq c hc).hi)
   rwa [List.map_id'] at this
  rw [tot_const] at a1
  have a2:(q.length:Rat) * ((1000:Nat):Rat) ≤ ((10000:Nat):Rat):=by
   have:((q.length * 1000:Nat):Rat) ≤ ((10000:Nat):Rat):=Rat.natCast_le_natCast.2 (by omega)
   push_cast at this ⊢
   exact this
  grind
 have hfac:2 * fac q.length ≤ 7257600:=by
  have:=fac_mono hn
  have e:fac 10 = 3628800:=by decide
  omega
 have hok:OkE E 2 q.length:=⟨h0,hE,hd,Nat.dvd_refl _,by omega,hfac⟩
 have hev:=equal_l0 hq hn τ hlt hl q.length 0 E 2 (List.replicate q.length z23) (by omega) (by simp) hok
 rw [List.drop_zero,k1,List.map_map] at hev
 refine ⟨q.map fun c=>min c L,⟨L,rfl,?_⟩,?_⟩
 ·rw [← k2,k1]
  exact (tot_perm (hpm.map _)).symm
 ·have e:fin (List.replicate q.length z23) τ (τ.map ((fun c=>min c L) ∘ fun i=>q.getD i 0)) = encL (q.map fun c=>min c L):=by
   refine List.ext_getElem (by rw [fin_length,encL_length];simp) fun i hi1 hi2=>?_
   have hiq:i < q.length:=by rw [encL_length,List.length_map] at hi2;exact hi2
   have:=fin_get ((fun c=>min c L) ∘ fun i=>q.getD i 0) τ (List.replicate q.length z23) i (by simpa using hiq)
   rw [if_pos (hp.mem_iff.2 (List.mem_range.2 hiq))] at this
   rw [List.getD_eq_getElem?_getD,List.getElem?_eq_getElem hi1,Option.getD_some] at this
   rw [this,encL_get (by simpa using hiq),List.getElem_map]
   simp [hiq]
  rw [e] at hev
  unfold shares_equal.f
  rw [encL_length]
  refine Ev.congr (fun k=>if_pos (by omega)) ?_
  refine Ev.congr (fun k=>if_pos (by omega)) ?_
  refine Ev.bind hb ?_
  rw [nI_length,Int.toNat_natCast]
  rw [hl] at hev ⊢
  exact hev
end
end Go.Proofs.Ytjohcjfmlhihbaa.P
namespace Go.Proofs.Ytjohcjfmlhihbaa.G
open Go Go.RowKit Go.ChangeMaps
variable {P:Program} (w:World)
theorem run_check {k:TypeId} (hk:P.underlying k = some (.int .i64)) (em:Bool) (n:Nat) (j:Int):(Instr.checkKey em (n + 1) k (.int .i64 j)).run P w = .ok () w:=by
 simp [Instr.checkKey,run_underlying hk,Result.andThen]
theorem run_put {t k e:TypeId} (ht:P.underlying t = some (.map k e)) (hk:P.underlying k = some (.int .i64)) {b:Nat} {es:Array MapEntry} {clock:Nat} (hb:w.heap[b]? = some (.map es clock)) {j:Int} {val:Value}
  (hf:Instr.findNow (.int .i64) (.int .i64 j) es.toList 0 = some none) :
  (Instr.mapUpdate t (.map (some b)) (.int .i64 j) val).run P w = .ok () (setBlock w b (.map (es.push { key:=.int .i64 j,val:=val,born:=clock }) (clock + 1))):=by
 simp [Instr.mapUpdate,run_underlying ht,MapKept.run_getObj_map hb,fun em=>run_check w hk em 9999 j,run_underlying hk,Instr.findKey,hf,MapKept.run_setObj_map _ hb,Result.andThen,setBlock]
theorem run_look {t k e:TypeId} (ht:P.underlying t = some (.map k e)) (hk:P.underlying k = some (.int .i64)) {b:Nat} {es:Array MapEntry} {clock:Nat} (hb:w.heap[b]? = some (.map es clock)) {j:Int} {i:Nat} {v:Value}
  (hf:Instr.findNow (.int .i64) (.int .i64 j) es.toList 0 = some (some (i,v))) :
  (Instr.lookup t (.map (some b)) (.int .i64 j) true).run P w = .ok (.tuple #[v,.bool true]) w:=by
 simp [Instr.lookup,run_underlying ht,MapKept.run_getObj_map hb,fun em=>run_check w hk em 9999 j,run_underlying hk,Instr.findKey,hf,Result.andThen]
theorem run_look_no {t k e:TypeId} (ht:P.underlying t = some (.map k e)) (hk:P.underlying k = some (.int .i64)) {z:Value} (hz:(zeroValue e).run P w = .ok z w) {b:Nat} {es:Array MapEntry} {clock:Nat} (hb:w.heap[b]? = some (.map es clock)) {j:Int}
  (hf:Instr.findNow (.int .i64) (.int .i64 j) es.toList 0 = some none) :
  (Instr.lookup t (.map (some b)) (.int .i64 j) true).run P w = .ok (.tuple #[z,.bool false]) w:=by
 simp [Instr.lookup,run_underlying ht,MapKept.run_getObj_map hb,fun em=>run_check w hk em 9999 j,run_underlying hk,Instr.findKey,hf,hz,Result.andThen]
theorem insert_new {ops:Array Oper} {rest:List Oper} {o:Oper} {a:Act} {Q:Exit → Act → World → Prop} (hg:o.guard = none) (m x v:Operand) (t k e:TypeId) (hop:o.op = Op.insert t m x v)
  (ht:P.underlying t = some (.map k e)) (hk:P.underlying k = some (.int .i64)) (b:Nat) (es:Array MapEntry) (clock:Nat) (hm:a.eval m = .map (some b)) (hb:w.heap[b]? = some (.map es clock)) (j:Int) (val:Value) (hx:a.eval x = .int .i64 j) (hv:a.eval v = val)
  (hf:Instr.findNow (.int .i64) (.int .i64 j) es.toList 0 = some none)
  (hK:∀ w',w'.heap[b]? = some (.map (es.push { key:=.int .i64 j,val:=val,born:=clock }) (clock + 1)) → w.grownBy w' (some b) → wpList P ops Q rest (a.put o.dst undef) w') :
  wpList P ops Q (o :: rest) a w:=by
 refine wpList_plain hg fun K' hK'=>?_
 unfold Oper.wp
 simp [execOp,hop,hm,hx,hv,run_put w ht hk hb hf,Result.andThen]
 refine hK' _ _ (hK _ (heap_setBlock_same hb _) ⟨rfl,rfl,rfl,by simp [setBlock],fun i _ hi=>heap_setBlock_other hb _ (fun e=>hi (by rw [e]))⟩)
theorem map_event {ops:Array Oper} {rest:List Oper} {o:Oper} {a:Act} {Q:Exit → Act → World → Prop} {W:World} (hg:o.guard = none) (t:TypeId) (hop:o.op = Op.makeMap t none)
  (h:∀ g,g = W.heap.size → ∀ w1,w1.heap[g]? = some (.map #[] 0) → Below W.heap.size W w1 → wpList P ops Q rest (a.put o.dst (.map (some g))) w1):wpList P ops Q (o :: rest) a W:=by
 refine wpList_plain hg fun K' hK'=>?_
 unfold Oper.wp
 have hr:(Instr.makeMap t none).run P W = .ok (.map (some W.heap.size)) (W.alloc (.map #[] 0)):=rfl
 simp [execOp,hop,hr,Result.andThen]
 exact hK' _ _ (h _ rfl _ (World.alloc_heap_new _ _) ((Below.refl _ _).alloc (Nat.le_refl _) _))
end Go.Proofs.Ytjohcjfmlhihbaa.G
namespace Go.Proofs.Ytjohcjfmlhihbaa.G
open Go.RowKit Go.Proofs.YtjohcjfmlhihbaaW.PrintWords Go.Proofs.YtjohcjfmlhihbaaW.PrintLast Go.Proofs.YtjohcjfmlhihbaaW.PrintMore
attribute [local go_sem] cond_true cond_false fld23_0 fld23_1 fld45_0 fld45_1 fld109_0 fld109_1 fld94_0 fld94_1 max2_int min2_int max_two min_two max_three min_three max_four min_four   -- for this text's walks alone
set_option linter.unusedVariables false
set_option linter.unusedSimpArgs false
def prop_1.f (k:Nat) (a0 est all:Int):Option (Int × Int):=(shares_frac.f k (wrap64 (a0 * est)) all).bind fun bt137=>(some (bt137.1,bt137.2))
theorem prop_1.mono:∀ a0 est all k,LeO (prop_1.f k a0 est all) (prop_1.f (k + 1) a0 est all):=by
 intro a0 est all k
 unfold prop_1.f
 repeat' first
   | (with_reducible exact shares_frac.mono _ _ _)
   | (with_reducible exact LeO.refl _)
   | (with_reducible exact LeO.none _)
   | (with_reducible refine LeO.ite ?_ ?_)
   | (with_reducible refine LeO.bind ?_ (fun _=>?_))
   | exact shares_frac.mono _ _ _
   | exact LeO.none _
   | refine LeO.ite ?_ ?_
   | refine LeO.bind ?_ (fun _=>?_)
set_option maxHeartbeats 8000000 in
set_option maxRecDepth 100000 in
theorem prop_1.calls (k:Nat) (a0 est all:Int) (r1:Int) (r2:Int) (w:World) (gbC gbA:Nat) (A:Option Addr) (c n:Nat) (BK0:w.heap[gbC]? = some (.cells #[.slice A n c,.int .i64 est] 94 (0,0))) (BK1:w.heap[gbA]? = some (.cells #[.int .i64 all] 3 (0,0))) (h:prop_1.f k a0 est all = some (r1,r2)) :
  Calls Try.prog 121 #[.int .i64 a0,.pointer (some ⟨gbC,0,none⟩),.pointer (some ⟨gbA,0,none⟩)] w fun e w'=>e = .returned (.agg #[.int .i64 r1,.int .i64 r2]) ∧ Below w.heap.size w w':=by
 have hu23:=Try.underlying23
 have HB:=Aside0.mk (Below.refl w.heap.size w)
 have BKC:=Aside0.mk BK0
 have BKA:=Aside0.mk BK1
 clear BK0 BK1
 have H:((shares_frac.f k (wrap64 (a0 * est)) all).bind fun bt137=>(some (bt137.1,bt137.2))) = some (r1,r2):=h
 clear h
 replace H:=Option.bind_eq_some_iff.mp H
 obtain ⟨⟨t137,t138⟩,A20,H⟩:=H
 replace H:(some (t137,t138)) = some (r1,r2):=H
 have A2:=Aside0.mk A20
 clear A20
 simp only [Option.some.injEq,Prod.mk.injEq] at H
 obtain ⟨rfl,rfl⟩:=H
 go_enter Try.func121,Try.ntmps121
 go_wp2_with (first | ((with_reducible refine gate_dst (N:=4) rfl ?_);refine box_event ?hg (N:=4) ?hd (cs:=#[.int .i64 0,.int .i64 0]) (t:=23) ?hr ?_;(case hd=>rfl);(case hg=>rfl);(case hr=>first | (go_simp;done) | (go_simp;rfl));intro gb136 hg w3 hbox hb;have n0_:=Aside0.mk (below_step (by repeat (first | (with_reducible first | exact HB.out | apply below_alloc | apply pw_below_drewN | apply below_drew1) | exact HB.out)) hb);have n1_:=Aside0.mk (hbox);have n2_:=Aside0.mk ((by rw [hg];exact (below_size (by repeat (first | (with_reducible first | exact HB.out | apply below_alloc | apply pw_below_drewN | apply below_drew1) | exact HB.out))):w.heap.size ≤ gb136));have n3_:=Aside0.mk ((by rw [hg];exact (below_size (by repeat (first | (with_reducible first | exact HB.out | apply below_alloc | apply pw_below_drewN | apply below_drew1) | exact HB.out))):w.heap.size ≤ gb136));clear HB;have HB:=n0_;have BK136:=n1_;have GW136:=n2_;have GE136:=n3_;clear n0_ n1_ n2_ n3_;have n4_:=Aside0.mk (blk_below (g:=gbC) (o:=.cells #[.slice A n c,.int .i64 est] 94 (0,0)) BKC.out hb);have n5_:=Aside0.mk (blk_below (g:=gbA) (o:=.cells #[.int .i64 all] 3 (0,0)) BKA.out hb);have hczC:=(blk_cell n4_.out 1).trans rfl;have hczA:=(blk_cell n5_.out 0).trans rfl;clear n4_ n5_;clear hb hbox hg) | ((with_reducible refine gate_callee (f:=117) rfl ?_);refine goesL_ (some 10) rfl rfl Try.func117 (by kernel_rfl) rfl #[.int .i64 (wrap64 (a0 * est)),.int .i64 all] rfl (by (try simp only [List.map_toArray,List.map_cons,List.map_nil]);first | done | rfl | (simp only [List.length_drop,List.length_take];rfl)) ?_;(with_reducible refine (shares_frac.calls k (wrap64 (a0 * est)) all t137 t138 _ A2.out).mono ?_);rintro e w4 ⟨rfl,hb⟩;refine ⟨_,rfl,?_⟩;have n0_:=Aside0.mk (blk_below (g:=gb136) (o:=.cells #[.int .i64 0,.int .i64 0] 23 (0,0)) (by (with_reducible repeat (first | refine blk_drewN ?_ _ | refine blk_drew ?_ | refine blk_alloc ?_ _));exact BK136.out) hb);have n1_:=Aside0.mk (below_step (by repeat (first | (with_reducible first | exact HB.out | apply below_alloc | apply pw_below_drewN | apply below_drew1 | refine below_set ?_ GE136.out) | exact HB.out)) hb);clear BK136;clear HB;have BK136:=n0_;have HB:=n1_;clear n0_ n1_;(try clear hb);(try clear hb2);(try clear hk);(try clear hi);have hcz5_0:w4.cell? ⟨gb136,0,none⟩ = some (.int .i64 0):=(blk_cell BK136.out 0).trans rfl;have hcz5_1:w4.cell? ⟨gb136,1,none⟩ = some (.int .i64 0):=(blk_cell BK136.out 1).trans rfl;have hfz5_0:=blk_frozen BK136.out 0;have hfz5_1:=blk_frozen BK136.out 1))
 refine bodyPost_ret (results_cell_row rfl _ _ gb136 23 #[.int .i64 t137,.int .i64 t138] (0,0) _ rfl (by (with_reducible repeat (first | refine blk_drewN ?_ _ | refine blk_drew ?_ | refine blk_alloc ?_ _));refine blk_put (cs:=#[.int .i64 t137,.int .i64 0]) ?_ 1 _ rfl;(with_reducible repeat (first | refine blk_drewN ?_ _ | refine blk_drew ?_ | refine blk_alloc ?_ _));refine blk_put (cs:=#[.int .i64 0,.int .i64 0]) ?_ 0 _ rfl;(with_reducible repeat (first | refine blk_drewN ?_ _ | refine blk_drew ?_ | refine blk_alloc ?_ _));exact BK136.out) Try.underlying23 rfl (by kernel_rfl)) rfl ?_
 exact ⟨by first | rfl | (simp [errW_none,errW_some] <;> rfl) | (simp [*,errW_none,errW_some] <;> rfl),by repeat (first | (with_reducible first | exact HB.out | apply below_alloc | apply pw_below_drewN | apply below_drew1 | refine below_set ?_ GE136.out) | exact HB.out)⟩
def each_prop.l0 (est all:Int):Nat → List (S23) → List Int → Int → Int → Option ((List (S23)))
 | 0,_,_,_,_=>none
 | k + 1,x5,x9,x10,x11=>if x11 < x10 then (if 0 ≤ x11 then (if x11 < (x9.length:Int) then ((prop_1.f k (rd x9 x11) est all).bind fun bt1611=>(if x5.length < 8796093022208 then (each_prop.l0 est all k (x5 ++ [(⟨bt1611.1,bt1611.2⟩:S23)]) x9 x10 (wrap64 (x11 + 1))) else (none))) else (none)) else (none)) else (some x5)
def each_prop.f (est all:Int) (k:Nat) (l0_0:List Int) (a0_1:Int):Option ((List (S23))):=each_prop.l0 est all k ([]:List (S23)) l0_0 (l0_0.length:Int) 0
theorem each_prop.mono_l (est all:Int):∀ k,(∀ y0 y1 y2 y3,LeO (each_prop.l0 est all k y0 y1 y2 y3) (each_prop.l0 est all (k + 1) y0 y1 y2 y3))
 | 0=>fun _ _ _ _ r h=>by simp [each_prop.l0] at h
 | k + 1=>by
  have ih0:=each_prop.mono_l est all k
  intro y0 y1 y2 y3
  unfold each_prop.l0
  repeat' first
  | (with_reducible exact ih0 _ _ _ _)
  | (with_reducible exact prop_1.mono _ _ _ _)
  | (with_reducible exact LeO.refl _)
  | (with_reducible exact LeO.none _)
  | (with_reducible refine LeO.ite ?_ ?_)
  | (with_reducible refine LeO.bind ?_ (fun _=>?_))
  | exact ih0 _ _ _ _
  | exact prop_1.mono _ _ _ _
  | exact LeO.none _
  | refine LeO.ite ?_ ?_
  | refine LeO.bind ?_ (fun _=>?_)
theorem each_prop.mono (est all:Int):∀ a0 a1 k,LeO (each_prop.f est all k a0 a1) (each_prop.f est all (k + 1) a0 a1):=by
 intro a0 a1 k
 have ih0:=each_prop.mono_l est all k
 unfold each_prop.f
 repeat' first
   | (with_reducible exact ih0 _ _ _ _)
   | (with_reducible exact prop_1.mono _ _ _ _)
   | (with_reducible exact LeO.refl _)
   | (with_reducible exact LeO.none _)
   | (with_reducible refine LeO.ite ?_ ?_)
   | (with_reducible refine LeO.bind ?_ (fun _=>?_))
   | exact ih0 _ _ _ _
   | exact prop_1.mono _ _ _ _
   | exact LeO.none _
   | refine LeO.ite ?_ ?_
   | refine LeO.bind ?_ (fun _=>?_)
set_option maxHeartbeats 8000000 in
set_option maxRecDepth 100000 in
theorem each_prop.calls (est all:Int) (k:Nat) (A0_0:Option Addr) (c0_0:Nat) (l0_0:List Int) (a0_1:Int) (r:List (S23)) (w:World) (gbC gbA:Nat) (A:Option Addr) (c n:Nat) (BK0:w.heap[gbC]? = some (.cells #[.slice A n c,.int .i64 est] 94 (0,0))) (BK1:w.heap[gbA]? = some (.cells #[.int .i64 all] 3 (0,0))) (hr0_0:Kd.C (Kd.int .i64) w A0_0 l0_0.length l0_0) (hc0_0:l0_0.length ≤ c0_0) (h:each_prop.f est all k l0_0 a0_1 = some r) :
  Calls Try.prog 120 #[.agg #[.slice A0_0 l0_0.length c0_0,.int .i64 a0_1],.func (.func 121) #[] #[.pointer (some ⟨gbC,0,none⟩),.pointer (some ⟨gbA,0,none⟩)]] w fun e w'=>∃ v0_:Value,e = .returned (v0_) ∧ Kd.R k23 23 w' w.heap.size (fun _=>True) v0_ r ∧ Below w.heap.size w w':=by
 have hu94:=Try.underlying94
 have BKC:=Aside0.mk BK0
 have BKA:=Aside0.mk BK1
 clear BK0 BK1
 have HR0_0:=Aside0.mk hr0_0
 have HC0_0:=Aside0.mk hc0_0
 clear hr0_0 hc0_0
 have HB:=Aside0.mk (Below.refl w.heap.size w)
 have H:(each_prop.l0 est all k ([]:List (S23)) l0_0 (l0_0.length:Int) 0) = some r:=h
 clear h
 have H':=Aside0.mk H
 clear H
 go_enter Try.func120,Try.ntmps120
 go_wp2_with (first | ((with_reducible refine gate_dst (N:=2) rfl ?_);refine box_event ?hg (N:=2) ?hd (cs:=#[.slice A0_0 l0_0.length c0_0,.int .i64 a0_1]) (t:=94) ?hr ?_;(case hd=>rfl);(case hg=>rfl);(case hr=>first | (go_simp;done) | (go_simp;rfl));intro gb1609 hg w2 hbox hb;have n0_:=Aside0.mk (below_step (by repeat (first | (with_reducible first | exact HB.out | apply below_alloc | apply pw_below_drewN | apply below_drew1) | exact HB.out)) hb);have n1_:=Aside0.mk (hbox);have n2_:=Aside0.mk ((by rw [hg];exact (below_size (by repeat (first | (with_reducible first | exact HB.out | apply below_alloc | apply pw_below_drewN | apply below_drew1) | exact HB.out))):w.heap.size ≤ gb1609));have n3_:=Aside0.mk ((by rw [hg];exact (below_size (by repeat (first | (with_reducible first | exact HB.out | apply below_alloc | apply pw_below_drewN | apply below_drew1) | exact HB.out))):w.heap.size ≤ gb1609));clear HB;have HB:=n0_;have BK1609:=n1_;have GW1609:=n2_;have GE1609:=n3_;clear n0_ n1_ n2_ n3_;clear hb hbox hg;have hcz3_0:w2.cell? ⟨gb1609,0,none⟩ = some (.slice A0_0 l0_0.length c0_0):=(blk_cell BK1609.out 0).trans rfl;have hcz3_1:w2.cell? ⟨gb1609,1,none⟩ = some (.int .i64 a0_1):=(blk_cell BK1609.out 1).trans rfl;have hfz3_0:=blk_frozen BK1609.out 0;have hfz3_1:=blk_frozen BK1609.out 1))
 go_loopg [5,11] k (fun kq v5 v11 w'=>∃ (x5_1:List (S23)) (x11_1:Int),v11 = .int .i64 x11_1 ∧ Aside0 (each_prop.l0 est all kq x5_1 l0_0 (l0_0.length:Int) x11_1 = some r) ∧ Aside0 (kq ≤ k) ∧ Aside0 (Kd.R k23 23 w' w.heap.size (fun _=>True) v5 x5_1) ∧ Aside0 (w'.heap[gb1609]? = some (.cells #[(.slice A0_0 l0_0.length c0_0),.int .i64 a0_1] 94 (0,0))) ∧ Aside0 (Below w.heap.size w w'))
 case atStart=>exact ⟨(([]:List (S23))),(0),(by first | rfl | (simp;done) | (simp [*];done)),H',⟨Nat.le_refl _⟩,⟨by first | exact Kd.R_nil _ _ _ _ _ | exact Kd.N_nil _ _ _ _ _ | exact Kd.V_nil _ _ _ _ _ | exact Kd.Q_nil _ _ _ _ _ | exact Kd.S_nil _ _ _ _ _⟩,⟨by (with_reducible repeat (first | refine blk_drewN ?_ _ | refine blk_drew ?_ | refine blk_alloc ?_ _));exact BK1609.out⟩,⟨by repeat (first | (with_reducible first | exact HB.out | apply below_alloc | apply pw_below_drewN | apply below_drew1 | refine below_set ?_ GE1609.out) | exact HB.out)⟩⟩
 case round =>
  clear H'
  try clear c1
  try clear p2
  try clear hcz3_0
  try clear hcz3_1
  try clear hfz3_0
  try clear hfz3_1
  obtain ⟨x5_1,x11_1,rfl,HA,HK1,HO_5,BK1609,HB⟩:=hrel
  cases gk with
  | zero=>exact absurd HA.out (by simp [each_prop.l0])
  | succ k1 =>
   have H:=HA.out
   clear HA
   simp only [each_prop.l0] at H
   by_cases c4:x11_1 < (l0_0.length:Int)
   case neg =>
    rw [if_neg c4] at H
    have c4b0:decide (x11_1 < (l0_0.length:Int)) = false:=decide_eq_false c4
    clear c4
    obtain rfl:=Option.some.inj H
    go_wp2
    go_ret
    exact ⟨_,by first | rfl | (simp [errW_none,errW_some] <;> rfl) | (simp [*,errW_none,errW_some] <;> rfl),by (with_reducible repeat (first | apply Kd.R_alloc | apply Kd.R_drewN | apply Kd.R_drew));exact HO_5.out,by repeat (first | (with_reducible first | exact HB.out | apply below_alloc | apply pw_below_drewN | apply below_drew1 | refine below_set ?_ GE1609.out) | exact HB.out)⟩
   rw [if_pos c4] at H
   have c4b0:decide (x11_1 < (l0_0.length:Int)) = true:=decide_eq_true c4
   clear c4
   by_cases c5:0 ≤ x11_1
   case neg =>
    rw [if_neg c5] at H
    exact absurd H (by simp)
   rw [if_pos c5] at H
   have c5b0:decide (0 ≤ x11_1) = true:=decide_eq_true c5
   clear c5
   by_cases c6:x11_1 < (l0_0.length:Int)
   case neg =>
    rw [if_neg c6] at H
    exact absurd H (by simp)
   rw [if_pos c6] at H
   have c6b0:decide (x11_1 < (l0_0.length:Int)) = true:=decide_eq_true c6
   clear c6
   replace H:=Option.bind_eq_some_iff.mp H
   obtain ⟨⟨t1611,t1612⟩,A70,H⟩:=H
   replace H:(if x5_1.length < 8796093022208 then (each_prop.l0 est all k1 (x5_1 ++ [(⟨t1611,t1612⟩:S23)]) l0_0 (l0_0.length:Int) (wrap64 (x11_1 + 1))) else (none)) = some r:=H
   have A7:=Aside0.mk A70
   clear A70
   by_cases c8:x5_1.length < 8796093022208
   case neg =>
    rw [if_neg c8] at H
    exact absurd H (by simp)
   rw [if_pos c8] at H
   have LMc8:=Aside0.mk c8
   clear c8
   obtain ⟨y1613,hy1613⟩:∃ y_:List (S23),y_ = (x5_1 ++ [(⟨t1611,t1612⟩:S23)]):=⟨_,rfl⟩
   replace H:(each_prop.l0 est all k1 y1613 l0_0 (l0_0.length:Int) (wrap64 (x11_1 + 1))) = some r:=by first | (rw [hy1613];with_reducible exact H) | (have H2_:=(Option.bind_some _ _).symm.trans H;rw [hy1613];with_reducible exact H2_) | (have H2_:=(Option.bind_some _ _).symm.trans H;with_reducible exact H2_) | with_reducible exact H | (rw [hy1613];exact H) | exact H
   have Ny1613:=Aside0.mk hy1613
   clear hy1613
   have H':=Aside0.mk H
   clear H
   have p1610:0 ≤ (x11_1:Int):=of_decide_eq_true (by first | (with_reducible assumption) | assumption)
   have q1610:x11_1 < (l0_0.length:Int):=of_decide_eq_true (by first | (with_reducible assumption) | assumption)
   obtain ⟨ad1610,e1610,hx1610_0⟩:=Kd.at_int HR0_0.out x11_1 p1610 q1610
   cases e1610
   replace hx1610_0:=(HB.out.cell (World.block_lt_of_cell? w _ hx1610_0)).trans hx1610_0
   replace p1610:=eq_true p1610
   replace q1610:=eq_true q1610
   go_wp2_with (first | (go_at_call 121;(with_reducible refine (prop_1.calls k1 (rd l0_0 x11_1) est all t1611 t1612 _ gbC gbA A c n (blk_below (g:=gbC) (o:=.cells #[.slice A n c,.int .i64 est] 94 (0,0)) BKC.out (by repeat (first | (with_reducible first | exact HB.out | apply below_alloc | apply pw_below_drewN | apply below_drew1 | refine below_set ?_ GE1609.out) | exact HB.out))) (blk_below (g:=gbA) (o:=.cells #[.int .i64 all] 3 (0,0)) BKA.out (by repeat (first | (with_reducible first | exact HB.out | apply below_alloc | apply pw_below_drewN | apply below_drew1 | refine below_set ?_ GE1609.out) | exact HB.out))) A7.out).mono ?_);rintro e w9 ⟨rfl,hb⟩;have n0_:=Aside0.mk (Kd.R_below (by (with_reducible repeat (first | apply Kd.R_alloc | apply Kd.R_drewN | apply Kd.R_drew));exact HO_5.out) hb);have n1_:=Aside0.mk (blk_below (g:=gb1609) (o:=.cells #[.slice (some ad1610) l0_0.length c0_0,.int .i64 a0_1] 94 (0,0)) (by (with_reducible repeat (first | refine blk_drewN ?_ _ | refine blk_drew ?_ | refine blk_alloc ?_ _));exact BK1609.out) hb);have n2_:=Aside0.mk (below_step (by repeat (first | (with_reducible first | exact HB.out | apply below_alloc | apply pw_below_drewN | apply below_drew1 | refine below_set ?_ GE1609.out) | exact HB.out)) hb);clear HO_5;clear BK1609;clear HB;have HO_5:=n0_;have BK1609:=n1_;have HB:=n2_;clear n0_ n1_ n2_;(try clear hb);(try clear hb2);(try clear hk);(try clear hi)) | ((with_reducible refine gate_builtin (b:=.append) (xs:=#[.tmp 15,.tmp 19]) rfl ?_);at_builtin;refine Kd.R_append k23 (w0:=w) w.heap.size rfl (.tmp 15) (.tmp 19) 35 23 (.agg #[(.int .i64 0),(.int .i64 0)]) 16 rfl Try.underlying35 info23 rfl (by decide) (by omega) u5 x5_1 (⟨t1611,t1612⟩:S23) [.int .i64 t1611,.int .i64 t1612] (fun _=>True) (fun _=>False) rfl rfl ?aP (fun _ hk=>hk.elim) ?aF ?aO ?aB ?aS ?aL ?_;(case aP=>exact k23_mkM _ _ _ (⟨t1611,t1612⟩:S23));(case aB=>exact (by repeat (first | (with_reducible first | exact HB.out | apply below_alloc | apply pw_below_drewN | apply below_drew1 | refine below_set ?_ GE1609.out) | exact HB.out)));(case aF=>exact (fun _ _=>trivial));(case aO=>exact (by (with_reducible repeat (first | apply Kd.R_alloc | apply Kd.R_drewN | apply Kd.R_drew));exact HO_5.out));(case aS=>exact (below_size (by repeat (first | (with_reducible first | exact HB.out | apply below_alloc | apply pw_below_drewN | apply below_drew1 | refine below_set ?_ GE1609.out) | exact HB.out))));(case aL=>have:=LMc8.out;omega);intro v1614 w10 ho hb hg hat;rw [← Ny1613.out] at ho;have n0_:=Aside0.mk (blk_grown (g:=gb1609) (o:=.cells #[.slice (some ad1610) l0_0.length c0_0,.int .i64 a0_1] 94 (0,0)) (by (with_reducible repeat (first | refine blk_drewN ?_ _ | refine blk_drew ?_ | refine blk_alloc ?_ _));exact BK1609.out) hg (Kd.R_ne HO_5.out BK1609.out (by decide)));have n1_:=Aside0.mk (hb);have n2_:=Aside0.mk (ho);clear BK1609;clear HB;clear HO_5;have BK1609:=n0_;have HB:=n1_;have HO1615:=n2_;clear n0_ n1_ n2_;clear ho hb hg hat))
   go_roundg k1
   case measure=>have:=HK1.out;omega
   case rel=>exact ⟨(y1613),(wrap64 (x11_1 + 1)),(by first | rfl | (simp;done) | (simp [*];done)),H',⟨by have:=HK1.out;omega⟩,⟨by (with_reducible repeat (first | apply Kd.R_alloc | apply Kd.R_drewN | apply Kd.R_drew));exact HO1615.out⟩,⟨by (with_reducible repeat (first | refine blk_drewN ?_ _ | refine blk_drew ?_ | refine blk_alloc ?_ _));exact BK1609.out⟩,⟨by repeat (first | (with_reducible first | exact HB.out | apply below_alloc | apply pw_below_drewN | apply below_drew1 | refine below_set ?_ GE1609.out) | exact HB.out)⟩⟩
def shares_claims_proportional.f (k:Nat) (l0_0:List Int) (a0_1:Int):Option (List (S23)):=(shares_total.f k l0_0).bind fun t=>each_prop.f a0_1 (mx 1 t) k l0_0 a0_1
theorem shares_claims_proportional.mono:∀ a0 a1 k,LeO (shares_claims_proportional.f k a0 a1) (shares_claims_proportional.f (k + 1) a0 a1):=by
 intro a0 a1 k
 unfold shares_claims_proportional.f
 exact LeO.bind (shares_total.mono _ _) (fun _=>each_prop.mono _ _ _ _ _)
set_option maxHeartbeats 8000000 in
set_option maxRecDepth 100000 in
theorem shares_claims_proportional.calls (k:Nat) (A0_0:Option Addr) (c0_0:Nat) (l0_0:List Int) (a0_1:Int) (r:List (S23)) (w:World) (hr0_0:Kd.C (Kd.int .i64) w A0_0 l0_0.length l0_0) (hc0_0:l0_0.length ≤ c0_0) (h:shares_claims_proportional.f k l0_0 a0_1 = some r) :
  Calls Try.prog 97 #[.agg #[.slice A0_0 l0_0.length c0_0,.int .i64 a0_1]] w fun e w'=>∃ v0_:Value,e = .returned (v0_) ∧ Kd.R k23 23 w' w.heap.size (fun _=>True) v0_ r ∧ Below w.heap.size w w':=by
 have hu94:=Try.underlying94
 have HR0:=Aside0.mk hr0_0
 have HC0:=Aside0.mk hc0_0
 clear hr0_0 hc0_0
 have HB:=Aside0.mk (Below.refl w.heap.size w)
 unfold shares_claims_proportional.f at h
 obtain ⟨t,h1,h2⟩:=Option.bind_eq_some_iff.1 h
 have A1:=Aside0.mk h1
 have A2:=Aside0.mk h2
 clear h h1 h2
 go_enter Try.func97,Try.ntmps97
 go_wp2_with (first | ((with_reducible refine gate_dst (N:=1) rfl ?_);refine box_event ?hg (N:=1) ?hd (cs:=#[.slice A0_0 l0_0.length c0_0,.int .i64 a0_1]) (t:=94) ?hr ?_;(case hd=>rfl);(case hg=>rfl);(case hr=>first | (go_simp;done) | (go_simp;rfl));intro gbC hg w2 hbox hb;have n0_:=Aside0.mk (below_step HB.out hb);have n1_:=Aside0.mk hbox;clear HB;have HB:=n0_;have BKC:=n1_;clear n0_ n1_;clear hb hbox hg;have hczC:=(blk_cell BKC.out 0).trans rfl))
 refine (shares_total.calls k A0_0 c0_0 l0_0 t _ (Kd.C_below HR0.out HB.out) HC0.out A1.out).mono ?_
 rintro e w3 ⟨rfl,⟨n3,rfl⟩⟩
 clear hczC
 have HB3:=Aside0.mk (pw_below_drewN HB.out n3)
 have BKC3:=Aside0.mk (blk_drewN BKC.out n3)
 clear HB BKC
 by_cases hm:1 < t
 all_goals
  go_wp2_with (first | ((with_reducible refine gate_dst (N:=3) rfl ?_);refine box_event ?hg (N:=3) ?hd (cs:=#[.int .i64 0]) (t:=3) ?hr ?_;(case hd=>rfl);(case hg=>rfl);(case hr=>first | (go_simp;done) | (go_simp;rfl));intro gbA hg w4 hbox hb;have n0_:=Aside0.mk (below_step HB3.out hb);have n1_:=Aside0.mk hbox;have n2_:=Aside0.mk (blk_below (g:=gbC) (o:=.cells #[.slice A0_0 l0_0.length c0_0,.int .i64 a0_1] 94 (0,0)) BKC3.out hb);have n3_:=Aside0.mk (by rw [hg];exact HB3.out.size:w.heap.size ≤ gbA);have n4_:=Aside0.mk (by rw [hg];exact Nat.ne_of_gt (blk_lt BKC3.out):gbA ≠ gbC);clear HB3 BKC3;have HB:=n0_;have BKA:=n1_;have BKC:=n2_;have GEA:=n3_;have NEA:=n4_;clear n0_ n1_ n2_ n3_ n4_;clear hb hbox hg;have hczA:=(blk_cell BKA.out 0).trans rfl;have hfzA:=blk_frozen BKA.out 0;have hczC:=(blk_cell BKC.out 0).trans rfl;have hczC1:=(blk_cell BKC.out 1).trans rfl;have hne:=NEA.out))
  first
   | (have hx:mx 1 t = t:=by unfold mx;rw [if_pos (by first | exact hm | assumption | omega)])
   | (have hx:mx 1 t = 1:=by unfold mx;rw [if_neg (by first | exact hm | assumption | omega)])
  have A3:=A2.out
  rw [hx] at A3
  clear hx hczA hfzA hczC hczC1 hne
  refine (each_prop.calls a0_1 _ k A0_0 c0_0 l0_0 a0_1 r _ gbC gbA A0_0 c0_0 l0_0.length (blk_far BKC.out (by exact fun e=>NEA.out e.symm) _) (blk_put BKA.out 0 _ rfl) (Kd.C_below HR0.out (below_set HB.out GEA.out)) HC0.out A3).mono ?_
  rintro e w5 ⟨v,rfl,hr,hb⟩
  have HR5:=Aside0.mk (Kd.R_lower hr (below_set (j:=0) HB.out GEA.out).size)
  have HB5:=Aside0.mk (below_step (below_set HB.out GEA.out) hb)
  clear hr hb
  go_wp2
  go_ret
  exact ⟨_,rfl,HR5.out,HB5.out⟩
end Go.Proofs.Ytjohcjfmlhihbaa.G
namespace Go.Proofs.Ytjohcjfmlhihbaa.G
open Go.RowKit Go.Proofs.YtjohcjfmlhihbaaW.PrintWords Go.Proofs.YtjohcjfmlhihbaaW.PrintLast Go.Proofs.YtjohcjfmlhihbaaW.PrintMore
set_option maxHeartbeats 8000000
set_option maxRecDepth 100000
attribute [local go_sem] cond_true cond_false fld23_0 fld23_1 fld45_0 fld45_1 fld109_0 fld109_1 fld94_0 fld94_1 max2_int min2_int max_two min_two max_three min_three max_four min_four   -- for this text's walks alone
def each_whole.l0:Nat → List (S23) → List Int → Int → Int → Option ((List (S23)))
 | 0,_,_,_,_=>none
 | k + 1,x5,x9,x10,e9=>if e9 < x10 then (if 0 ≤ e9 then (if e9 < (x9.length:Int) then ((shares_whole.f (rd x9 e9)).bind fun d2=>(if x5.length < 8796093022208 then (each_whole.l0 k (x5 ++ [(⟨d2.1,d2.2⟩:S23)]) x9 x10 (wrap64 (e9 + 1))) else (none))) else (none)) else (none)) else (some x5)
def each_whole.f (k:Nat) (b1:List Int) (b9:Int):Option ((List (S23))):=each_whole.l0 k ([]:List (S23)) b1 (b1.length:Int) 0
theorem each_whole.mono_l:∀ k,(∀ y0 y1 y2 y3,LeO (each_whole.l0 k y0 y1 y2 y3) (each_whole.l0 (k + 1) y0 y1 y2 y3))
 | 0=>fun _ _ _ _ r h=>by simp [each_whole.l0] at h
 | k + 1=>by
  have h0:=each_whole.mono_l k;intro y0 y1 y2 y3;unfold each_whole.l0
  repeat' first
  | (with_reducible exact h0 _ _ _ _)
  | (with_reducible exact LeO.refl _)
  | (with_reducible exact LeO.none _)
  | (with_reducible refine LeO.ite ?_ ?_)
  | (with_reducible refine LeO.bind ?_ (fun _=>?_))
  | exact h0 _ _ _ _
  | exact LeO.none _
  | refine LeO.ite ?_ ?_
  | refine LeO.bind ?_ (fun _=>?_)
theorem each_whole.mono:∀ a0 a1 k,LeO (each_whole.f k a0 a1) (each_whole.f (k + 1) a0 a1):=by
 intro a0 a1 k;have h0:=each_whole.mono_l k;unfold each_whole.f
 repeat' first
   | (with_reducible exact h0 _ _ _ _)
   | (with_reducible exact LeO.refl _)
   | (with_reducible exact LeO.none _)
   | (with_reducible refine LeO.ite ?_ ?_)
   | (with_reducible refine LeO.bind ?_ (fun _=>?_))
   | exact h0 _ _ _ _
   | exact LeO.none _
   | refine LeO.ite ?_ ?_
   | refine LeO.bind ?_ (fun _=>?_)
theorem each_whole.calls (k:Nat) (d3:Option Addr) (d0:Nat) (b1:List Int) (b9:Int) (r:List (S23)) (w:World) (d7:Kd.C (Kd.int .i64) w d3 b1.length b1) (d8:b1.length ≤ d0) (h:each_whole.f k b1 b9 = some r) :
  Calls Try.prog 120 #[.agg #[.slice d3 b1.length d0,.int .i64 b9],.func (.func 64) #[] #[]] w fun e w'=>∃ h7:Value,e = .returned (h7) ∧ Kd.R k23 23 w' w.heap.size (fun _=>True) h7 r ∧ Below w.heap.size w w':=by
 have i2:=Try.underlying94;have h1:=Aside0.mk d7;have h8:=Aside0.mk d8;clear d7 d8;have HB:=Aside0.mk (Below.refl w.heap.size w);have H:(each_whole.l0 k ([]:List (S23)) b1 (b1.length:Int) 0) = some r:=h;clear h;have H':=Aside0.mk H;clear H;go_enter Try.func120,Try.ntmps120;go_wp2_with (first | ((with_reducible refine gate_dst (N:=2) rfl ?_);refine box_event ?hg (N:=2) ?hd (cs:=#[.slice d3 b1.length d0,.int .i64 b9]) (t:=94) ?hr ?_;(case hd=>rfl);(case hg=>rfl);(case hr=>first | (go_simp;done) | (go_simp;rfl));intro b3 hg w2 hbox hb;have d9:=Aside0.mk (below_step (by repeat (first | (with_reducible first | exact HB.out | apply below_alloc | apply pw_below_drewN | apply below_drew1) | exact HB.out)) hb);have e0:=Aside0.mk (hbox);have e1:=Aside0.mk ((by rw [hg];exact (below_size (by repeat (first | (with_reducible first | exact HB.out | apply below_alloc | apply pw_below_drewN | apply below_drew1) | exact HB.out))):w.heap.size ≤ b3));have h9:=Aside0.mk ((by rw [hg];exact (below_size (by repeat (first | (with_reducible first | exact HB.out | apply below_alloc | apply pw_below_drewN | apply below_drew1) | exact HB.out))):w.heap.size ≤ b3));clear HB;have HB:=d9;have b0:=e0;have h3:=e1;have b4:=h9;clear d9 e0 e1 h9;clear hb hbox hg;have e3:w2.cell? ⟨b3,0,none⟩ = some (.slice d3 b1.length d0):=(blk_cell b0.out 0).trans rfl;have e4:w2.cell? ⟨b3,1,none⟩ = some (.int .i64 b9):=(blk_cell b0.out 1).trans rfl;have e5:=blk_frozen b0.out 0;have e6:=blk_frozen b0.out 1));go_loopg [5,11] k (fun kq v5 i3 w'=>∃ (c0:List (S23)) (b2:Int),i3 = .int .i64 b2 ∧ Aside0 (each_whole.l0 kq c0 b1 (b1.length:Int) b2 = some r) ∧ Aside0 (kq ≤ k) ∧ Aside0 (Kd.R k23 23 w' w.heap.size (fun _=>True) v5 c0) ∧ Aside0 (w'.heap[b3]? = some (.cells #[(.slice d3 b1.length d0),.int .i64 b9] 94 (0,0))) ∧ Aside0 (Below w.heap.size w w'))
 case atStart=>exact ⟨(([]:List (S23))),(0),(by first | rfl | (simp;done) | (simp [*];done)),H',⟨Nat.le_refl _⟩,⟨by first | exact Kd.R_nil _ _ _ _ _ | exact Kd.N_nil _ _ _ _ _ | exact Kd.V_nil _ _ _ _ _ | exact Kd.Q_nil _ _ _ _ _ | exact Kd.S_nil _ _ _ _ _⟩,⟨by (with_reducible repeat (first | refine blk_drewN ?_ _ | refine blk_drew ?_ | refine blk_alloc ?_ _));exact b0.out⟩,⟨by repeat (first | (with_reducible first | exact HB.out | apply below_alloc | apply pw_below_drewN | apply below_drew1 | refine below_set ?_ b4.out) | exact HB.out)⟩⟩
 case round =>
  clear H';try clear c1
  try clear p2
  try clear e3
  try clear e4
  try clear e5
  try clear e6
  obtain ⟨c0,b2,rfl,HA,i0,d1,b0,HB⟩:=hrel
  cases gk with
  | zero=>exact absurd HA.out (by simp [each_whole.l0])
  | succ k1 =>
   have H:=HA.out;clear HA;simp only [each_whole.l0] at H;by_cases c4:b2 < (b1.length:Int)
   case neg =>
    rw [if_neg c4] at H;have h4:decide (b2 < (b1.length:Int)) = false:=decide_eq_false c4;clear c4;obtain rfl:=Option.some.inj H;go_wp2;go_ret;exact ⟨_,by first | rfl | (simp [errW_none,errW_some] <;> rfl) | (simp [*,errW_none,errW_some] <;> rfl),by (with_reducible repeat (first | apply Kd.R_alloc | apply Kd.R_drewN | apply Kd.R_drew));exact d1.out,by repeat (first | (with_reducible first | exact HB.out | apply below_alloc | apply pw_below_drewN | apply below_drew1 | refine below_set ?_ b4.out) | exact HB.out)⟩
   rw [if_pos c4] at H;have h4:decide (b2 < (b1.length:Int)) = true:=decide_eq_true c4;clear c4;by_cases c5:0 ≤ b2
   case neg =>
    rw [if_neg c5] at H;exact absurd H (by simp)
   rw [if_pos c5] at H;have i4:decide (0 ≤ b2) = true:=decide_eq_true c5;clear c5;by_cases c6:b2 < (b1.length:Int)
   case neg =>
    rw [if_neg c6] at H;exact absurd H (by simp)
   rw [if_pos c6] at H;have i5:decide (b2 < (b1.length:Int)) = true:=decide_eq_true c6;clear c6;replace H:=Option.bind_eq_some_iff.mp H;obtain ⟨⟨b7,b8⟩,A70,H⟩:=H;replace H:(if c0.length < 8796093022208 then (each_whole.l0 k1 (c0 ++ [(⟨b7,b8⟩:S23)]) b1 (b1.length:Int) (wrap64 (b2 + 1))) else (none)) = some r:=H;have A7:=Aside0.mk A70;clear A70;by_cases c8:c0.length < 8796093022208
   case neg =>
    rw [if_neg c8] at H;exact absurd H (by simp)
   rw [if_pos c8] at H;have h5:=Aside0.mk c8;clear c8;obtain ⟨e2,b5⟩:∃ y_:List (S23),y_ = (c0 ++ [(⟨b7,b8⟩:S23)]):=⟨_,rfl⟩
   replace H:(each_whole.l0 k1 e2 b1 (b1.length:Int) (wrap64 (b2 + 1))) = some r:=by first | (rw [b5];with_reducible exact H) | (have h6:=(Option.bind_some _ _).symm.trans H;rw [b5];with_reducible exact h6) | (have h6:=(Option.bind_some _ _).symm.trans H;with_reducible exact h6) | with_reducible exact H | (rw [b5];exact H) | exact H
   have e7:=Aside0.mk b5;clear b5;have H':=Aside0.mk H;clear H;have d4:0 ≤ (b2:Int):=of_decide_eq_true (by first | (with_reducible assumption) | assumption);have d5:b2 < (b1.length:Int):=of_decide_eq_true (by first | (with_reducible assumption) | assumption);obtain ⟨d6,h2,b6⟩:=Kd.at_int h1.out b2 d4 d5
   cases h2;replace b6:=(HB.out.cell (World.block_lt_of_cell? w _ b6)).trans b6;replace d4:=eq_true d4;replace d5:=eq_true d5;go_wp2_with (first | (go_at_call 64;(with_reducible refine (shares_whole.calls (rd b1 b2) b7 b8 _ A7.out).mono ?_);rintro e w9 ⟨rfl,hb⟩;have d9:=Aside0.mk (Kd.R_below (by (with_reducible repeat (first | apply Kd.R_alloc | apply Kd.R_drewN | apply Kd.R_drew));exact d1.out) hb);have e0:=Aside0.mk (blk_below (g:=b3) (o:=.cells #[.slice (some d6) b1.length d0,.int .i64 b9] 94 (0,0)) (by (with_reducible repeat (first | refine blk_drewN ?_ _ | refine blk_drew ?_ | refine blk_alloc ?_ _));exact b0.out) hb);have e1:=Aside0.mk (below_step (by repeat (first | (with_reducible first | exact HB.out | apply below_alloc | apply pw_below_drewN | apply below_drew1 | refine below_set ?_ b4.out) | exact HB.out)) hb);clear d1;clear b0;clear HB;have d1:=d9;have b0:=e0;have HB:=e1;clear d9 e0 e1;(try clear hb)) | ((with_reducible refine gate_builtin (b:=.append) (xs:=#[.tmp 15,.tmp 19]) rfl ?_);at_builtin;refine Kd.R_append k23 (w0:=w) w.heap.size rfl (.tmp 15) (.tmp 19) 35 23 (.agg #[(.int .i64 0),(.int .i64 0)]) 16 rfl Try.underlying35 info23 rfl (by decide) (by omega) u5 c0 (⟨b7,b8⟩:S23) [.int .i64 b7,.int .i64 b8] (fun _=>True) (fun _=>False) rfl rfl ?aP (fun _ hk=>hk.elim) ?aF ?aO ?aB ?aS ?aL ?_;(case aP=>exact k23_mkM _ _ _ (⟨b7,b8⟩:S23));(case aB=>exact (by repeat (first | (with_reducible first | exact HB.out | apply below_alloc | apply pw_below_drewN | apply below_drew1 | refine below_set ?_ b4.out) | exact HB.out)));(case aF=>exact (fun _ _=>trivial));(case aO=>exact (by (with_reducible repeat (first | apply Kd.R_alloc | apply Kd.R_drewN | apply Kd.R_drew));exact d1.out));(case aS=>exact (below_size (by repeat (first | (with_reducible first | exact HB.out | apply below_alloc | apply pw_below_drewN | apply below_drew1 | refine below_set ?_ b4.out) | exact HB.out))));(case aL=>have:=h5.out;omega);intro i1 i6 ho hb hg hat;rw [← e7.out] at ho;have d9:=Aside0.mk (blk_grown (g:=b3) (o:=.cells #[.slice (some d6) b1.length d0,.int .i64 b9] 94 (0,0)) (by (with_reducible repeat (first | refine blk_drewN ?_ _ | refine blk_drew ?_ | refine blk_alloc ?_ _));exact b0.out) hg (Kd.R_ne d1.out b0.out (by decide)));have e0:=Aside0.mk (hb);have e1:=Aside0.mk (ho);clear b0;clear HB;clear d1;have b0:=d9;have HB:=e0;have e8:=e1;clear d9 e0 e1;clear ho hb hg hat));go_roundg k1
   case measure=>have:=i0.out;omega
   case rel=>exact ⟨(e2),(wrap64 (b2 + 1)),(by first | rfl | (simp;done) | (simp [*];done)),H',⟨by have:=i0.out;omega⟩,⟨by (with_reducible repeat (first | apply Kd.R_alloc | apply Kd.R_drewN | apply Kd.R_drew));exact e8.out⟩,⟨by (with_reducible repeat (first | refine blk_drewN ?_ _ | refine blk_drew ?_ | refine blk_alloc ?_ _));exact b0.out⟩,⟨by repeat (first | (with_reducible first | exact HB.out | apply below_alloc | apply pw_below_drewN | apply below_drew1 | refine below_set ?_ b4.out) | exact HB.out)⟩⟩
def shares_claims_awards.f (k:Nat) (b6:List Int) (b3:Int):Option ((List (S23))):=(each_whole.f k b6 b3).bind fun b4=>((shares_whole.f b3).bind fun b1=>((shares_equal.f k b4 b1.1 b1.2).bind fun b5=>(some b5)))
theorem shares_claims_awards.mono:∀ a0 a1 k,LeO (shares_claims_awards.f k a0 a1) (shares_claims_awards.f (k + 1) a0 a1):=by
 intro a0 a1 k;unfold shares_claims_awards.f
 repeat' first
   | (with_reducible exact each_whole.mono _ _ _)
   | (with_reducible exact shares_equal.mono _ _ _ _)
   | (with_reducible exact LeO.refl _)
   | (with_reducible exact LeO.none _)
   | (with_reducible refine LeO.ite ?_ ?_)
   | (with_reducible refine LeO.bind ?_ (fun _=>?_))
   | exact each_whole.mono _ _ _
   | exact shares_equal.mono _ _ _ _
   | exact LeO.none _
   | refine LeO.ite ?_ ?_
   | refine LeO.bind ?_ (fun _=>?_)
theorem shares_claims_awards.calls (k:Nat) (b7:Option Addr) (b8:Nat) (b6:List Int) (b3:Int) (r:List (S23)) (w:World) (d0:Kd.C (Kd.int .i64) w b7 b6.length b6) (d1:b6.length ≤ b8) (h:shares_claims_awards.f k b6 b3 = some r) :
  Calls Try.prog 98 #[.agg #[.slice b7 b6.length b8,.int .i64 b3]] w fun e w'=>∃ d8:Value,e = .returned (d8) ∧ Kd.R k23 23 w' w.heap.size (fun _=>True) d8 r ∧ Below w.heap.size w w':=by
 have e6:=Try.underlying94;have d6:=A_ d0;have d7:=A_ d1;clear d0 d1;have HB:=A_ (Below.refl w.heap.size w);have H:((each_whole.f k b6 b3).bind fun b4=>((shares_whole.f b3).bind fun b1=>((shares_equal.f k b4 b1.1 b1.2).bind fun b5=>(some b5)))) = some r:=h;clear h;replace H:=Option.bind_eq_some_iff.mp H;obtain ⟨b4,d9,H⟩:=H;replace H:((shares_whole.f b3).bind fun b1=>((shares_equal.f k b4 b1.1 b1.2).bind fun b5=>(some b5))) = some r:=H;have A2:=A_ d9;clear d9;replace H:=Option.bind_eq_some_iff.mp H;obtain ⟨⟨b9,c0⟩,A30,H⟩:=H;dsimp only at H;have A3:=A_ A30;clear A30;replace H:=Option.bind_eq_some_iff.mp H;obtain ⟨b5,e0,H⟩:=H;replace H:(some b5) = some r:=H;have A4:=A_ e0;clear e0;obtain rfl:=Option.some.inj H;go_enter Try.func98,Try.ntmps98;try go_wp2_with (first | ((with_reducible refine gate_dst (N:=1) rfl ?_);refine box_event ?hg (N:=1) ?hd (cs:=#[.slice b7 b6.length b8,.int .i64 b3]) (t:=94) ?hr ?_;(case hd=>rfl);(case hg=>rfl);(case hr=>first | (go_simp;done) | (go_simp;rfl));intro c1 hg w5 hbox hb;have b0:=A_ hbox;have d2:=gw hg HB;have d3:=d2;replace HB:=bB HB hb;clear hb hbox hg))
 replace b0:=A_ (blk_drew b0.out);replace HB:=A_ (below_drew1 HB.out);refine start_ (n:=7) (S:=fun w'=>w'.cell? ⟨c1,0,none⟩ = some (.slice b7 b6.length b8) ∧ w'.cell? ⟨c1,1,none⟩ = some (.int .i64 b3)) (ds:=[]) (ba 7 0) (by kernel_rfl) rfl rfl ⟨cz b0 0,cz b0 1⟩ (fun hHeld=>?_);generalize w5.drew = w6 at b0 HB hHeld ⊢;refine pr 2 5 4 ?_;refine tr 0 3 5 hHeld ?_;refine tr 3 6 13 hHeld ?_;refine os 1 4 15 (fun K hK=>?_);refine gq Try.func120 #[.agg #[.slice b7 b6.length b8,.int .i64 b3],.func (.func 64) #[] #[]] ?_;with_reducible refine (each_whole.calls k _ _ b6 b3 b4 _ ?side1 ?side2 A2.out).mono ?_;(case side1=>exact cB d6 HB)
 (case side2=>exact d7.out)
 rintro e w7 ⟨e1,rfl,d5,hb⟩;refine ⟨_,rfl,?_⟩;have b2:=A_ (Kd.R_lower d5 (below_size HB.out));replace b0:=kB b0 hb;replace HB:=bB HB hb;(try clear hb)
 (try clear d5)
 refine hK.out _ _ ⟨cz b0 0,cz b0 1⟩ (fun hHeld=>?_);clear hK K;refine nq 4 ?_;refine os 4 7 31 (fun K hK=>?_);refine gq Try.func64 #[.int .i64 b3] ?_;with_reducible refine (shares_whole.calls b3 b9 c0 _ A3.out).mono ?_;rintro e w8 ⟨rfl,hb⟩;refine ⟨_,rfl,?_⟩;replace b2:=rB b2 hb;replace b0:=kB b0 hb;replace HB:=bB HB hb;(try clear hb)
 obtain ⟨e7,e8,e2⟩:=Kd.R_slice b2.out;(first | subst e2 | (injection e2 with e3 e9 e4;have h0:=e3.symm;have h1:=e4.symm;clear e3 e9 e4;subst h0;subst h1))
 refine hK.out _ _ ⟨cz b0 0,cz b0 1⟩ (fun hHeld=>?_);clear hK K;refine nq 7 ?_;refine os 5 8 63 (fun K hK=>?_);refine gq Try.func122 #[.slice e7 b4.length e8,.agg #[.int .i64 b9,.int .i64 c0]] ?_;with_reducible refine (shares_equal.calls k _ _ b4 b9 c0 b5 _ ?side1 ?side2 A4.out).mono ?_;(case side1=>repeat (first | exact (Kd.R_reads' b2.out).2.2 | (with_reducible refine Kd.C_alloc ?_ _) | (with_reducible refine Kd.C_drewN ?_ _) | (with_reducible refine Kd.C_drew ?_)))
 (case side2=>exact (Kd.R_reads' b2.out).2.1)
 rintro e h2 ⟨e5,rfl,d5,hb⟩;refine ⟨_,rfl,?_⟩;have d4:=A_ (Kd.R_lower (Kd.R_new' d5 (Kd.R_lt b2.out)) (below_size HB.out));replace b2:=A_ (Kd.R_elder' b2.out (Kd.R_base d5) hb);replace b0:=kB b0 hb;replace HB:=bB HB hb;(try clear hb)
 (try clear d5)
 refine hK.out _ _ ⟨cz b0 0,cz b0 1⟩ (fun hHeld=>?_);clear hK K;refine nq 8 ?_;refine pr 6 2 127 ?_;refine done_ (by kernel_rfl) ?_;try go_wp2
 go_ret;exact ⟨_,rfl,by (with_reducible repeat (first | apply Kd.R_alloc | apply Kd.R_drewN | apply Kd.R_drew));exact Kd.R_mono d4.out (fun _ hk=>trivial),by repeat (first | (with_reducible first | exact HB.out | apply below_alloc | apply pw_below_drewN | apply below_drew1 | refine below_set ?_ d3.out) | exact HB.out)⟩
end Go.Proofs.Ytjohcjfmlhihbaa.G
namespace Go.Proofs.Ytjohcjfmlhihbaa.G
open Go.RowKit Go.Proofs.YtjohcjfmlhihbaaW.PrintWords Go.Proofs.YtjohcjfmlhihbaaW.PrintLast Go.Proofs.YtjohcjfmlhihbaaW.PrintMore
set_option maxHeartbeats 8000000
set_option maxRecDepth 100000
attribute [local go_sem] cond_true cond_false fld23_0 fld23_1 fld45_0 fld45_1 fld109_0 fld109_1 fld94_0 fld94_1 max2_int min2_int max_two min_two max_three min_three max_four min_four
def shares_claims_losses.l0:Nat → List (S23) → List (S23) → List Int → Int → Int → Option ((List (S23)))
 | 0,_,_,_,_,_=>none
 | k + 1,x3,x4,l7,x19,h1=>if h1 < x19 then (if 0 ≤ h1 then (if h1 < (l7.length:Int) then ((shares_whole.f (rd l7 h1)).bind fun d9=>(if h1 < (x3.length:Int) then ((shares_minus.f k d9.1 d9.2 ((rd_T23 x3 h1).f0) ((rd_T23 x3 h1).f1)).bind fun e0=>(if x4.length < 8796093022208 then (shares_claims_losses.l0 k x3 (x4 ++ [(⟨e0.1,e0.2⟩:S23)]) l7 x19 (wrap64 (h1 + 1))) else (none))) else (none))) else (none)) else (none)) else (some x4)
def shares_claims_losses.f (k:Nat) (b1:List Int) (b5:Int):Option ((List (S23))):=(each_whole.f k b1 b5).bind fun b8=>((shares_total.f k b1).bind fun b7=>((shares_whole.f (wrap64 (b7 - b5))).bind fun b4=>((shares_equal.f k b8 b4.1 b4.2).bind fun b3=>(shares_claims_losses.l0 k b3 ([]:List (S23)) b1 (b1.length:Int) 0))))
theorem shares_claims_losses.mono_l:∀ k,(∀ y0 y1 y2 y3 y4,LeO (shares_claims_losses.l0 k y0 y1 y2 y3 y4) (shares_claims_losses.l0 (k + 1) y0 y1 y2 y3 y4))
 | 0=>fun _ _ _ _ _ r h=>by simp [shares_claims_losses.l0] at h
 | k + 1=>by
  have l8:=shares_claims_losses.mono_l k;intro y0 y1 y2 y3 y4;unfold shares_claims_losses.l0
  repeat' first
  | (with_reducible first | exact l8 _ _ _ _ _ | exact each_whole.mono _ _ _ | exact shares_equal.mono _ _ _ _ | exact shares_minus.mono _ _ _ _ _ | exact shares_total.mono _ _ | exact LeO.refl _ | exact LeO.none _ | refine LeO.ite ?_ ?_ | refine LeO.bind ?_ (fun _=>?_))
  | exact LeO.none _ | refine LeO.ite ?_ ?_ | refine LeO.bind ?_ (fun _=>?_)
theorem shares_claims_losses.mono:∀ a0 a1 k,LeO (shares_claims_losses.f k a0 a1) (shares_claims_losses.f (k + 1) a0 a1):=by
 intro a0 a1 k;have l8:=shares_claims_losses.mono_l k;unfold shares_claims_losses.f
 repeat' first
   | (with_reducible first | exact l8 _ _ _ _ _ | exact each_whole.mono _ _ _ | exact shares_equal.mono _ _ _ _ | exact shares_minus.mono _ _ _ _ _ | exact shares_total.mono _ _ | exact LeO.refl _ | exact LeO.none _ | refine LeO.ite ?_ ?_ | refine LeO.bind ?_ (fun _=>?_))
   | exact LeO.none _ | refine LeO.ite ?_ ?_ | refine LeO.bind ?_ (fun _=>?_)
def shares_claims_losses.T1:Bool × List (List Nat × List Nat):=(true,[([],[]),([0],[0]),([],[]),([2],[2]),([3,1],[3]),([],[]),([5],[5]),([4,6],[4,6]),([7,4],[7]),([1,8,8],[1,8]),([9,9,0,1,2,3,4,5,6,7,8,9],[9])])
def shares_claims_losses.B1:List Nat:=[0,1,0,4,15,0,32,127,255,511,1023]
theorem shares_claims_losses.tab1:rtab .any (opsOf Try.f99 1) = shares_claims_losses.T1:=by kernel_rfl
theorem shares_claims_losses.bits1:waitsOk shares_claims_losses.T1.2 shares_claims_losses.B1 = true:=by kernel_rfl
def shares_claims_losses.T6:Bool × List (List Nat × List Nat):=(true,[([],[]),([],[]),([1],[1]),([],[]),([],[]),([3,4],[3,4]),([5],[5]),([2,6,2],[2,6]),([7],[7]),([0,8,7],[0,8]),([9,9,0,1,2,3,4,5,6,7,8,9],[0,9])])
def shares_claims_losses.B6:List Nat:=[0,0,2,0,0,24,56,126,254,511,1023]
theorem shares_claims_losses.tab6:rtab .any (opsOf Try.f99 6) = shares_claims_losses.T6:=by kernel_rfl
theorem shares_claims_losses.bits6:waitsOk shares_claims_losses.T6.2 shares_claims_losses.B6 = true:=by kernel_rfl
theorem shares_claims_losses.calls (k:Nat) (d4:Option Addr) (d2:Nat) (b1:List Int) (b5:Int) (r:List (S23)) (w:World) (h2:Kd.C (Kd.int .i64) w d4 b1.length b1) (h3:b1.length ≤ d2) (h:shares_claims_losses.f k b1 b5 = some r) :
  Calls Try.prog 99 #[.agg #[.slice d4 b1.length d2,.int .i64 b5]] w fun e w'=>∃ m9:Value,e = .returned (m9) ∧ Kd.R k23 23 w' w.heap.size (fun _=>True) m9 r ∧ Below w.heap.size w w':=by
 have o4:=Try.underlying94;have o5:=Try.underlying23;have e1:=A_ h2;have h4:=A_ h3;clear h2 h3;have HB:=A_ (Below.refl w.heap.size w);have H:((each_whole.f k b1 b5).bind fun b8=>((shares_total.f k b1).bind fun b7=>((shares_whole.f (wrap64 (b7 - b5))).bind fun b4=>((shares_equal.f k b8 b4.1 b4.2).bind fun b3=>(shares_claims_losses.l0 k b3 ([]:List (S23)) b1 (b1.length:Int) 0))))) = some r:=h;clear h;replace H:=Option.bind_eq_some_iff.mp H;obtain ⟨b8,n0,H⟩:=H;replace H:((shares_total.f k b1).bind fun b7=>((shares_whole.f (wrap64 (b7 - b5))).bind fun b4=>((shares_equal.f k b8 b4.1 b4.2).bind fun b3=>(shares_claims_losses.l0 k b3 ([]:List (S23)) b1 (b1.length:Int) 0)))) = some r:=H;have A2:=A_ n0;clear n0;replace H:=Option.bind_eq_some_iff.mp H;obtain ⟨b7,n1,H⟩:=H;replace H:((shares_whole.f (wrap64 (b7 - b5))).bind fun b4=>((shares_equal.f k b8 b4.1 b4.2).bind fun b3=>(shares_claims_losses.l0 k b3 ([]:List (S23)) b1 (b1.length:Int) 0))) = some r:=H;have A3:=A_ n1;clear n1;replace H:=Option.bind_eq_some_iff.mp H;obtain ⟨⟨e2,e3⟩,A40,H⟩:=H;dsimp only at H;have A4:=A_ A40;clear A40;replace H:=Option.bind_eq_some_iff.mp H;obtain ⟨b3,n2,H⟩:=H;replace H:(shares_claims_losses.l0 k b3 ([]:List (S23)) b1 (b1.length:Int) 0) = some r:=H;have A5:=A_ n2;clear n2;have H':=A_ H;clear H;go_enter Try.func99,Try.ntmps99;try go_wp2_with (first | ((with_reducible refine gate_dst (N:=1) rfl ?_);refine bx 1 #[.slice d4 b1.length d2,.int .i64 b5] 94 ?_;intro b9 hg w6 hbox hb;have b0:=A_ hbox;have h7:=gw hg HB;have l9:=h7;replace HB:=bB HB hb;clear hb hbox hg))
 replace b0:=kD b0;replace HB:=bD HB;refine st 11 (fun w'=>w'.cell? ⟨b9,0,none⟩ = some (.slice d4 b1.length d2) ∧ w'.cell? ⟨b9,1,none⟩ = some (.int .i64 b5)) [] shares_claims_losses.tab1 shares_claims_losses.bits1 (fun hHeld HT_ HW_=>?_);generalize w6.drew = w7 at b0 HB hHeld ⊢;refine pq 2 9 4 HT_ ?_;refine pq 5 12 36 HT_ ?_;refine tq 0 7 37 HT_ HW_ hHeld ?_;refine tq 3 10 45 HT_ HW_ hHeld ?_;refine tq 6 13 109 HT_ HW_ hHeld ?_;refine oq 1 8 111 HT_ (fun K hK=>?_);refine gq Try.func120 #[.agg #[.slice d4 b1.length d2,.int .i64 b5],.func (.func 64) #[] #[]] ?_;with_reducible refine (each_whole.calls k _ _ b1 b5 b8 _ ?side1 ?side2 A2.out).mono ?_;(case side1=>exact cB e1 HB)
 (case side2=>exact h4.out)
 rintro e w8 ⟨n3,rfl,j7,hb⟩;refine ⟨_,rfl,?_⟩;have b6:=A_ (Kd.R_lower j7 (below_size HB.out));replace b0:=kB b0 hb;replace HB:=bB HB hb;(try clear hb)
 refine hz hK (fun hHeld=>?_);clear hK K;refine nq 8 ?_;refine oq 4 11 127 HT_ (fun K hK=>?_);refine gq Try.func93 #[.slice d4 b1.length d2] ?_;with_reducible refine (shares_total.calls k _ _ b1 b7 _ ?side1 ?side2 A3.out).mono ?_;(case side1=>exact cB e1 HB)
 (case side2=>exact h4.out)
 rintro e w' ⟨rfl,⟨nd,rfl⟩⟩;refine ⟨_,rfl,?_⟩;refine hz hK (fun hHeld=>?_);clear hK K;refine nq 11 ?_;refine pq 7 14 255 HT_ ?_;refine oq 8 15 511 HT_ (fun K hK=>?_);refine gq Try.func64 #[.int .i64 (wrap64 (b7 - b5))] ?_;with_reducible refine (shares_whole.calls (wrap64 (b7 - b5)) e2 e3 _ A4.out).mono ?_;rintro e w9 ⟨rfl,hb⟩;refine ⟨_,rfl,?_⟩;replace b6:=rB b6 hb;replace b0:=kB b0 hb;replace HB:=bB HB hb;(try clear hb)
 obtain ⟨m0,m1,i3⟩:=Kd.R_slice b6.out;(first | subst i3 | (injection i3 with i4 m2 i5;have m3:=i4.symm;have m4:=i5.symm;clear i4 m2 i5;subst m3;subst m4))
 refine hz hK (fun hHeld=>?_);clear hK K;refine nq 15 ?_;refine oq 9 16 1023 HT_ (fun K hK=>?_);refine gq Try.func122 #[.slice m0 b8.length m1,.agg #[.int .i64 e2,.int .i64 e3]] ?_;with_reducible refine (shares_equal.calls k _ _ b8 e2 e3 b3 _ ?side1 ?side2 A5.out).mono ?_;(case side1=>repeat (first | exact (Kd.R_reads' b6.out).2.2 | (with_reducible refine Kd.C_alloc ?_ _) | (with_reducible refine Kd.C_drewN ?_ _) | (with_reducible refine Kd.C_drew ?_)))
 (case side2=>exact (Kd.R_reads' b6.out).2.1)
 rintro e n4 ⟨h5,rfl,j7,hb⟩;refine ⟨_,rfl,?_⟩;have h8:=A_ (Kd.R_lower (Kd.R_new' j7 (Kd.R_lt b6.out)) (below_size HB.out));replace b6:=A_ (Kd.R_elder' b6.out (Kd.R_base j7) hb);replace b0:=kB b0 hb;replace HB:=bB HB hb;(try clear hb)
 refine hz hK (fun hHeld=>?_);clear hK K;refine nq 16 ?_;refine pq 10 3 2047 HT_ ?_;refine done_ (done_of HT_.out (by kernel_rfl)) ?_;have j8:n4.cell? ⟨b9,0,none⟩ = some (.slice d4 b1.length d2):=cz b0 0;have j9:n4.cell? ⟨b9,1,none⟩ = some (.int .i64 b5):=cz b0 1;have l5:=blk_frozen b0.out 0;have l6:=blk_frozen b0.out 1;try go_wp2
 go_loopg [4,20] k (fun kq v4 o6 w'=>∃ (e4:List (S23)) (b2:Int),o6 = .int .i64 b2 ∧ Aside0 (shares_claims_losses.l0 kq b3 e4 b1 (b1.length:Int) b2 = some r) ∧ Aside0 (kq ≤ k) ∧ Aside0 (Kd.R k23 23 w' w.heap.size (fun k_=>some k_ ≠ (v4:Value).ownBlock) h5 b3) ∧ Aside0 (Kd.R k23 23 w' w.heap.size (fun k_=>some k_ ≠ (h5:Value).ownBlock) v4 e4) ∧ Aside0 (w'.heap[b9]? = some (.cells #[(.slice d4 b1.length d2),.int .i64 b5] 94 (0,0))) ∧ Aside0 (Below w.heap.size w w'))
 case atStart=>exact ⟨(([]:List (S23))),(0),rfl,H',⟨Nat.le_refl _⟩,⟨by (with_reducible repeat (first | apply Kd.R_alloc | apply Kd.R_drewN | apply Kd.R_drew));exact Kd.R_mono h8.out (fun _ hk=>(by simp [Value.ownBlock]))⟩,⟨by first | exact Kd.R_nil _ _ _ _ _ | exact Kd.N_nil _ _ _ _ _ | exact Kd.V_nil _ _ _ _ _ | exact Kd.Q_nil _ _ _ _ _ | exact Kd.S_nil _ _ _ _ _⟩,⟨by (with_reducible repeat (first | refine blk_drewN ?_ _ | refine blk_drew ?_ | refine blk_alloc ?_ _));exact b0.out⟩,⟨bl HB⟩⟩
 case round =>
  clear H';obtain ⟨e4,b2,rfl,HA,n5,c0,c1,b0,HB⟩:=hrel
  cases gk with
  | zero=>exact absurd HA.out (by simp [shares_claims_losses.l0])
  | succ k1 =>
   have H:=HA.out;clear HA;simp only [shares_claims_losses.l0] at H;by_cases i2:b2 < (b1.length:Int)
   case neg =>
    rw [if_neg i2] at H;have i6:=decide_eq_false i2;clear i2;obtain rfl:=Option.some.inj H;go_wp2;go_ret;exact ⟨_,rfl,by (with_reducible repeat (first | apply Kd.R_alloc | apply Kd.R_drewN | apply Kd.R_drew));exact Kd.R_mono c1.out (fun _ hk=>trivial),bl HB⟩
   rw [if_pos i2] at H;have i6:=decide_eq_true i2;clear i2;replace H:=gd H;obtain ⟨n6,H⟩:=H;have n7:=decide_eq_true n6;clear n6;replace H:=gd H;obtain ⟨n8,H⟩:=H;have n9:=decide_eq_true n8;clear n8;replace H:=Option.bind_eq_some_iff.mp H;obtain ⟨⟨e5,e6⟩,A160,H⟩:=H;dsimp only at H;have o7:=A_ A160;clear A160;replace H:=gd H;obtain ⟨o0,H⟩:=H;have o1:=decide_eq_true o0;clear o0;replace H:=Option.bind_eq_some_iff.mp H;obtain ⟨⟨d5,d6⟩,A180,H⟩:=H;dsimp only at H;have o8:=A_ A180;clear A180;replace H:=gd H;obtain ⟨o2,H⟩:=H;have i7:=A_ o2;clear o2;obtain ⟨h6,d0⟩:∃ y_:List (S23),y_ = (e4 ++ [(⟨d5,d6⟩:S23)]):=⟨_,rfl⟩
   replace H:(shares_claims_losses.l0 k1 b3 h6 b1 (b1.length:Int) (wrap64 (b2 + 1))) = some r:=by first | (rw [d0];with_reducible exact H) | (have m5:=(Option.bind_some _ _).symm.trans H;rw [d0];with_reducible exact m5) | (have m5:=(Option.bind_some _ _).symm.trans H;with_reducible exact m5) | with_reducible exact H | (rw [d0];exact H) | exact H
   have h9:=A_ d0;clear d0;have H':=A_ H;clear H;have e7:0 ≤ (b2:Int):=of_decide_eq_true (by assumption);have e8:b2 < (b1.length:Int):=of_decide_eq_true (by assumption);obtain ⟨i0,i8,d1⟩:=Kd.at_int e1.out b2 e7 e8
   cases i8;replace d1:=(HB.out.cell (World.block_lt_of_cell? w _ d1)).trans d1;replace e7:=eq_true e7;replace e8:=eq_true e8;try go_wp2
   replace c0:=rD c0;replace c1:=rD c1;replace b0:=kD b0;replace HB:=bD HB;obtain ⟨o9,m6,i9⟩:=Kd.R_slice c0.out;(first | subst i9 | (injection i9 with i4 m2 i5;have m3:=i4.symm;have m4:=i5.symm;clear i4 m2 i5;subst m3;subst m4))
   have e9:0 ≤ (b2:Int):=of_decide_eq_true (by assumption);have h0:b2 < (b3.length:Int):=of_decide_eq_true (by assumption);obtain ⟨d3,j5,d7,d8⟩:=at_T23 (Kd.R_reads' c0.out).2.2 b2 e9 h0
   cases j5;replace e9:=eq_true e9;replace h0:=eq_true h0;refine start_ (n:=11) (S:=fun w'=>w'.cell? (d3.add ((b2).toNat * 2)) = some (.int .i64 ((rd_T23 b3 b2).f0)) ∧ w'.cell? ⟨(d3.add ((b2).toNat * 2)).block,(d3.add ((b2).toNat * 2)).off + 1,none⟩ = some (.int .i64 ((rd_T23 b3 b2).f1))) (ds:=[8,9]) (ba 11 0) (by kernel_rfl) rfl rfl ⟨d7,d8⟩ (fun hHeld=>?_);refine with_tabW shares_claims_losses.tab6 shares_claims_losses.bits6 (fun HT_ HW_=>?_);generalize wr.drew = p0 at c0 c1 b0 HB d7 d8 hHeld ⊢;refine pq 0 25 1 HT_ ?_;refine pq 1 26 3 HT_ ?_;refine pq 3 28 11 HT_ ?_;refine pq 4 29 27 HT_ ?_;refine pq 5 30 59 HT_ ?_;refine tq 6 31 123 HT_ HW_ hHeld ?_;refine oq 2 27 127 HT_ (fun K hK=>?_);refine gq Try.func64 #[.int .i64 (rd b1 b2)] ?_;with_reducible refine (shares_whole.calls (rd b1 b2) e5 e6 _ o7.out).mono ?_;rintro e p1 ⟨rfl,hb⟩;have m7:=(hb.cell (World.block_lt_of_cell? _ _ (hHeld.1))).trans (hHeld.1);have m8:=(hb.cell (World.block_lt_of_cell? _ _ (hHeld.2))).trans (hHeld.2);refine ⟨_,rfl,?_⟩;replace c0:=rB c0 hb;replace c1:=rB c1 hb;replace b0:=kB b0 hb;replace HB:=bB HB hb;(try clear hb)
   refine hz hK (fun hHeld=>?_);clear hK K;refine nq 27 ?_;refine oq 7 32 255 HT_ (fun K hK=>?_);refine gq Try.func95 #[.agg #[.int .i64 e5,.int .i64 e6],.agg #[.int .i64 ((rd_T23 b3 b2).f0),.int .i64 ((rd_T23 b3 b2).f1)]] ?_;with_reducible refine (shares_minus.calls k1 e5 e6 ((rd_T23 b3 b2).f0) ((rd_T23 b3 b2).f1) d5 d6 _ o8.out).mono ?_;rintro e p2 ⟨rfl,hb⟩;have m7:=(hb.cell (World.block_lt_of_cell? _ _ (hHeld.1))).trans (hHeld.1);have m8:=(hb.cell (World.block_lt_of_cell? _ _ (hHeld.2))).trans (hHeld.2);refine ⟨_,rfl,?_⟩;replace c0:=rB c0 hb;replace c1:=rB c1 hb;replace b0:=kB b0 hb;replace HB:=bB HB hb;(try clear hb)
   refine hz hK (fun hHeld=>?_);clear hK K;refine nq 32 ?_;refine last_ (i:=8) (N:=some 33) (ba 11 511) rfl rfl (one_of HT_.out (by kernel_rfl)) (by decide) (fun K hK=>?_);refine value_ (w1:=?_) (v:=?_) (by rfl) rfl ?_ ?_;rotate_left 2
   ·go_simp;constructor
    ·rfl
    rfl
   refine hK.out _ _ ?_;clear hK K;refine nq 33 ?_;refine last_ (i:=9) (N:=some 34) (ba 11 1023) rfl rfl (one_of HT_.out (by kernel_rfl)) (by decide) (fun K hK=>?_);refine Kd.R_append_step k23 (w0:=w) w.heap.size (by rfl) (.tmp 25) (.tmp 33) 35 23 (.agg #[(.int .i64 0),(.int .i64 0)]) 16 rfl Try.underlying35 info23 rfl (by decide) (by omega) u4 e4 (⟨d5,d6⟩:S23) [.int .i64 d5,.int .i64 d6] (fun k_=>some k_ ≠ (.slice (some d3) b3.length m6:Value).ownBlock) (fun _=>False) rfl rfl ?aP (fun _ hk=>hk.elim) ?aF ?aO ?aB ?aS ?aL ?_;(case aP=>exact k23_mkM _ _ _ (⟨d5,d6⟩:S23))
   (case aB=>exact HB.out)
   (case aF=>exact (fun k_ hk=>Kd.fresh' (Kd.R_lt c0.out) k_ hk))
   (case aO=>exact c1.out)
   (case aS=>exact (below_size HB.out))
   (case aL=>have:=i7.out;omega)
   intro o3 p3 ho hb hg hat;rw [← h9.out] at ho;have i1:=A_ ho;replace c0:=A_ (Kd.R_after (ok:=(fun _=>True)) (by (with_reducible repeat (first | apply Kd.R_alloc | apply Kd.R_drewN | apply Kd.R_drew));exact Kd.R_mono c0.out (fun _ hk=>⟨trivial,hk⟩)) hg hat);replace b0:=A_ (blk_grown (g:=b9) (o:=.cells #[.slice (some i0) b1.length d2,.int .i64 b5] 94 (0,0)) b0.out hg (Kd.R_ne c1.out b0.out (by decide)));replace HB:=A_ hb;clear c1 ho hb hg hat;refine hK.out _ _ ?_;clear hK K;refine nq 34 ?_;refine pq 10 4 2047 HT_ ?_;refine done_ (done_of HT_.out (by kernel_rfl)) ?_;try go_wp2
   go_roundg k1
   case measure=>have:=n5.out;omega
   case rel=>exact ⟨(h6),(wrap64 (b2 + 1)),rfl,H',⟨by have:=n5.out;omega⟩,⟨by (with_reducible repeat (first | apply Kd.R_alloc | apply Kd.R_drewN | apply Kd.R_drew));exact Kd.R_mono c0.out (fun _ hk=>hk.2)⟩,⟨by (with_reducible repeat (first | apply Kd.R_alloc | apply Kd.R_drewN | apply Kd.R_drew));exact i1.out⟩,⟨by (with_reducible repeat (first | refine blk_drewN ?_ _ | refine blk_drew ?_ | refine blk_alloc ?_ _));exact b0.out⟩,⟨bl HB⟩⟩
end Go.Proofs.Ytjohcjfmlhihbaa.G
namespace Go.Proofs.Ytjohcjfmlhihbaa.G
open Go.RowKit Go.Proofs.YtjohcjfmlhihbaaW.PrintWords Go.Proofs.YtjohcjfmlhihbaaW.PrintLast Go.Proofs.YtjohcjfmlhihbaaW.PrintMore
set_option maxHeartbeats 8000000
set_option maxRecDepth 100000
attribute [local go_sem] cond_true cond_false fld23_0 fld23_1 fld45_0 fld45_1 fld109_0 fld109_1 fld94_0 fld94_1 max2_int min2_int max_two min_two max_three min_three max_four min_four   -- for this text's walks alone
def shares_claims_halves_1.f (k:Nat) (a0:Int):Option (Int × Int):=(shares_frac.f k a0 2).bind fun b2=>(some (b2.1,b2.2))
theorem shares_claims_halves_1.mono:∀ a0 k,LeO (shares_claims_halves_1.f k a0) (shares_claims_halves_1.f (k + 1) a0):=by
 intro a0 k;unfold shares_claims_halves_1.f
 repeat' first
   | (with_reducible exact shares_frac.mono _ _ _)
   | (with_reducible exact LeO.refl _)
   | (with_reducible exact LeO.none _)
   | (with_reducible refine LeO.ite ?_ ?_)
   | (with_reducible refine LeO.bind ?_ (fun _=>?_))
   | exact shares_frac.mono _ _ _
   | exact LeO.none _
   | refine LeO.ite ?_ ?_
   | refine LeO.bind ?_ (fun _=>?_)
theorem shares_claims_halves_1.calls (k:Nat) (a0:Int) (r1:Int) (r2:Int) (w:World) (h:shares_claims_halves_1.f k a0 = some (r1,r2)) :
  Calls Try.prog 130 #[.int .i64 a0] w fun e w'=>e = .returned (.agg #[.int .i64 r1,.int .i64 r2]) ∧ Below w.heap.size w w':=by
 have d3:=Try.underlying23;have HB:=Aside0.mk (Below.refl w.heap.size w);have H:((shares_frac.f k a0 2).bind fun b2=>(some (b2.1,b2.2))) = some (r1,r2):=h;clear h;replace H:=Option.bind_eq_some_iff.mp H;obtain ⟨⟨b3,b5⟩,A20,H⟩:=H;replace H:(some (b3,b5)) = some (r1,r2):=H;have A2:=Aside0.mk A20;clear A20;simp only [Option.some.injEq,Prod.mk.injEq] at H;obtain ⟨rfl,rfl⟩:=H;go_enter Try.func130,Try.ntmps130;go_wp2_with (first | ((with_reducible refine gate_dst (N:=2) rfl ?_);refine box_event ?hg (N:=2) ?hd (cs:=#[.int .i64 0,.int .i64 0]) (t:=23) ?hr ?_;(case hd=>rfl);(case hg=>rfl);(case hr=>first | (go_simp;done) | (go_simp;rfl));intro b1 hg w3 hbox hb;have b6:=Aside0.mk (below_step (by repeat (first | (with_reducible first | exact HB.out | apply below_alloc | apply pw_below_drewN | apply below_drew1) | exact HB.out)) hb);have b7:=Aside0.mk (hbox);have d0:=Aside0.mk ((by rw [hg];exact (below_size (by repeat (first | (with_reducible first | exact HB.out | apply below_alloc | apply pw_below_drewN | apply below_drew1) | exact HB.out))):w.heap.size ≤ b1));have d1:=Aside0.mk ((by rw [hg];exact (below_size (by repeat (first | (with_reducible first | exact HB.out | apply below_alloc | apply pw_below_drewN | apply below_drew1) | exact HB.out))):w.heap.size ≤ b1));clear HB;have HB:=b6;have b0:=b7;have d2:=d0;have b4:=d1;clear b6 b7 d0 d1;clear hb hbox hg) | ((with_reducible refine gate_callee (f:=117) rfl ?_);refine goesL_ (some 4) rfl rfl Try.func117 (by kernel_rfl) rfl #[.int .i64 a0,.int .i64 2] rfl (by (try simp only [List.map_toArray,List.map_cons,List.map_nil]);first | done | rfl | (simp only [List.length_drop,List.length_take];rfl)) ?_;(with_reducible refine (shares_frac.calls k a0 2 b3 b5 _ A2.out).mono ?_);rintro e w4 ⟨rfl,hb⟩;refine ⟨_,rfl,?_⟩;have b6:=Aside0.mk (blk_below (g:=b1) (o:=.cells #[.int .i64 0,.int .i64 0] 23 (0,0)) (by (with_reducible repeat (first | refine blk_drewN ?_ _ | refine blk_drew ?_ | refine blk_alloc ?_ _));exact b0.out) hb);have b7:=Aside0.mk (below_step (by repeat (first | (with_reducible first | exact HB.out | apply below_alloc | apply pw_below_drewN | apply below_drew1 | refine below_set ?_ b4.out) | exact HB.out)) hb);clear b0;clear HB;have b0:=b6;have HB:=b7;clear b6 b7;(try clear hb);have b8:w4.cell? ⟨b1,0,none⟩ = some (.int .i64 0):=(blk_cell b0.out 0).trans rfl;have b9:w4.cell? ⟨b1,1,none⟩ = some (.int .i64 0):=(blk_cell b0.out 1).trans rfl;have c0:=blk_frozen b0.out 0;have c1:=blk_frozen b0.out 1));refine bodyPost_ret (results_cell_row rfl _ _ b1 23 #[.int .i64 b3,.int .i64 b5] (0,0) _ rfl (by (with_reducible repeat (first | refine blk_drewN ?_ _ | refine blk_drew ?_ | refine blk_alloc ?_ _));refine blk_put (cs:=#[.int .i64 b3,.int .i64 0]) ?_ 1 _ rfl;(with_reducible repeat (first | refine blk_drewN ?_ _ | refine blk_drew ?_ | refine blk_alloc ?_ _));refine blk_put (cs:=#[.int .i64 0,.int .i64 0]) ?_ 0 _ rfl;(with_reducible repeat (first | refine blk_drewN ?_ _ | refine blk_drew ?_ | refine blk_alloc ?_ _));exact b0.out) Try.underlying23 rfl (by kernel_rfl)) rfl ?_;exact ⟨by first | rfl | (simp [errW_none,errW_some] <;> rfl) | (simp [*,errW_none,errW_some] <;> rfl),by repeat (first | (with_reducible first | exact HB.out | apply below_alloc | apply pw_below_drewN | apply below_drew1 | refine below_set ?_ b4.out) | exact HB.out)⟩
def each_halves.l0:Nat → List (S23) → List Int → Int → Int → Option ((List (S23)))
 | 0,_,_,_,_=>none
 | k + 1,x5,x9,x10,e7=>if e7 < x10 then (if 0 ≤ e7 then (if e7 < (x9.length:Int) then ((shares_claims_halves_1.f k (rd x9 e7)).bind fun d2=>(if x5.length < 8796093022208 then (each_halves.l0 k (x5 ++ [(⟨d2.1,d2.2⟩:S23)]) x9 x10 (wrap64 (e7 + 1))) else (none))) else (none)) else (none)) else (some x5)
def each_halves.f (k:Nat) (b0:List Int) (b9:Int):Option ((List (S23))):=each_halves.l0 k ([]:List (S23)) b0 (b0.length:Int) 0
theorem each_halves.mono_l:∀ k,(∀ y0 y1 y2 y3,LeO (each_halves.l0 k y0 y1 y2 y3) (each_halves.l0 (k + 1) y0 y1 y2 y3))
 | 0=>fun _ _ _ _ r h=>by simp [each_halves.l0] at h
 | k + 1=>by
  have e8:=each_halves.mono_l k;intro y0 y1 y2 y3;unfold each_halves.l0
  repeat' first
  | (with_reducible exact e8 _ _ _ _)
  | (with_reducible exact shares_claims_halves_1.mono _ _)
  | (with_reducible exact LeO.refl _)
  | (with_reducible exact LeO.none _)
  | (with_reducible refine LeO.ite ?_ ?_)
  | (with_reducible refine LeO.bind ?_ (fun _=>?_))
  | exact e8 _ _ _ _
  | exact shares_claims_halves_1.mono _ _
  | exact LeO.none _
  | refine LeO.ite ?_ ?_
  | refine LeO.bind ?_ (fun _=>?_)
theorem each_halves.mono:∀ a0 a1 k,LeO (each_halves.f k a0 a1) (each_halves.f (k + 1) a0 a1):=by
 intro a0 a1 k;have e8:=each_halves.mono_l k;unfold each_halves.f
 repeat' first
   | (with_reducible exact e8 _ _ _ _)
   | (with_reducible exact shares_claims_halves_1.mono _ _)
   | (with_reducible exact LeO.refl _)
   | (with_reducible exact LeO.none _)
   | (with_reducible refine LeO.ite ?_ ?_)
   | (with_reducible refine LeO.bind ?_ (fun _=>?_))
   | exact e8 _ _ _ _
   | exact shares_claims_halves_1.mono _ _
   | exact LeO.none _
   | refine LeO.ite ?_ ?_
   | refine LeO.bind ?_ (fun _=>?_)
theorem each_halves.calls (k:Nat) (d3:Option Addr) (d0:Nat) (b0:List Int) (b9:Int) (r:List (S23)) (w:World) (d6:Kd.C (Kd.int .i64) w d3 b0.length b0) (d7:b0.length ≤ d0) (h:each_halves.f k b0 b9 = some r) :
  Calls Try.prog 120 #[.agg #[.slice d3 b0.length d0,.int .i64 b9],.func (.func 130) #[] #[]] w fun e w'=>∃ h4:Value,e = .returned (h4) ∧ Kd.R k23 23 w' w.heap.size (fun _=>True) h4 r ∧ Below w.heap.size w w':=by
 have h8:=Try.underlying94;have e9:=A_ d6;have h5:=A_ d7;clear d6 d7;have HB:=A_ (Below.refl w.heap.size w);have H:(each_halves.l0 k ([]:List (S23)) b0 (b0.length:Int) 0) = some r:=h;clear h;have H':=A_ H;clear H;go_enter Try.func120,Try.ntmps120;go_wp2_with (first | ((with_reducible refine gate_dst (N:=2) rfl ?_);refine box_event ?hg (N:=2) ?hd (cs:=#[.slice d3 b0.length d0,.int .i64 b9]) (t:=94) ?hr ?_;(case hd=>rfl);(case hg=>rfl);(case hr=>first | (go_simp;done) | (go_simp;rfl));intro b7 hg w2 hbox hb;have b2:=A_ hbox;have d9:=gw hg HB;have c0:=d9;replace HB:=bB HB hb;clear hb hbox hg;have e0:w2.cell? ⟨b7,0,none⟩ = some (.slice d3 b0.length d0):=cz b2 0;have e1:w2.cell? ⟨b7,1,none⟩ = some (.int .i64 b9):=cz b2 1;have e2:=blk_frozen b2.out 0;have e3:=blk_frozen b2.out 1));go_loopg [5,11] k (fun kq v5 h9 w'=>∃ (b8:List (S23)) (b1:Int),h9 = .int .i64 b1 ∧ Aside0 (each_halves.l0 kq b8 b0 (b0.length:Int) b1 = some r) ∧ Aside0 (kq ≤ k) ∧ Aside0 (Kd.R k23 23 w' w.heap.size (fun _=>True) v5 b8) ∧ Aside0 (w'.heap[b7]? = some (.cells #[(.slice d3 b0.length d0),.int .i64 b9] 94 (0,0))) ∧ Aside0 (Below w.heap.size w w'))
 case atStart=>exact ⟨(([]:List (S23))),(0),(by first | rfl | (simp;done) | (simp [*];done)),H',⟨Nat.le_refl _⟩,⟨by first | exact Kd.R_nil _ _ _ _ _ | exact Kd.N_nil _ _ _ _ _ | exact Kd.V_nil _ _ _ _ _ | exact Kd.Q_nil _ _ _ _ _ | exact Kd.S_nil _ _ _ _ _⟩,⟨by (with_reducible repeat (first | refine blk_drewN ?_ _ | refine blk_drew ?_ | refine blk_alloc ?_ _));exact b2.out⟩,⟨by repeat (first | (with_reducible first | exact HB.out | apply below_alloc | apply pw_below_drewN | apply below_drew1 | refine below_set ?_ c0.out) | exact HB.out)⟩⟩
 case round =>
  clear H';try clear c1
  try clear p2
  try clear e0
  try clear e1
  try clear e2
  try clear e3
  obtain ⟨b8,b1,rfl,HA,h6,d1,b2,HB⟩:=hrel
  cases gk with
  | zero=>exact absurd HA.out (by simp [each_halves.l0])
  | succ k1 =>
   have H:=HA.out;clear HA;simp only [each_halves.l0] at H;by_cases c4:b1 < (b0.length:Int)
   case neg =>
    rw [if_neg c4] at H;have h1:decide (b1 < (b0.length:Int)) = false:=decide_eq_false c4;clear c4;obtain rfl:=Option.some.inj H;go_wp2;go_ret;exact ⟨_,by first | rfl | (simp [errW_none,errW_some] <;> rfl) | (simp [*,errW_none,errW_some] <;> rfl),by (with_reducible repeat (first | apply Kd.R_alloc | apply Kd.R_drewN | apply Kd.R_drew));exact d1.out,by repeat (first | (with_reducible first | exact HB.out | apply below_alloc | apply pw_below_drewN | apply below_drew1 | refine below_set ?_ c0.out) | exact HB.out)⟩
   rw [if_pos c4] at H;have h1:decide (b1 < (b0.length:Int)) = true:=decide_eq_true c4;clear c4;by_cases c5:0 ≤ b1
   case neg =>
    rw [if_neg c5] at H;exact absurd H (by simp)
   rw [if_pos c5] at H;have i0:decide (0 ≤ b1) = true:=decide_eq_true c5;clear c5;by_cases c6:b1 < (b0.length:Int)
   case neg =>
    rw [if_neg c6] at H;exact absurd H (by simp)
   rw [if_pos c6] at H;have i1:decide (b1 < (b0.length:Int)) = true:=decide_eq_true c6;clear c6;replace H:=Option.bind_eq_some_iff.mp H;obtain ⟨⟨b5,b6⟩,A70,H⟩:=H;replace H:(if b8.length < 8796093022208 then (each_halves.l0 k1 (b8 ++ [(⟨b5,b6⟩:S23)]) b0 (b0.length:Int) (wrap64 (b1 + 1))) else (none)) = some r:=H;have A7:=A_ A70;clear A70;by_cases c8:b8.length < 8796093022208
   case neg =>
    rw [if_neg c8] at H;exact absurd H (by simp)
   rw [if_pos c8] at H;have h2:=A_ c8;clear c8;obtain ⟨d8,b3⟩:∃ y_:List (S23),y_ = (b8 ++ [(⟨b5,b6⟩:S23)]):=⟨_,rfl⟩
   replace H:(each_halves.l0 k1 d8 b0 (b0.length:Int) (wrap64 (b1 + 1))) = some r:=by first | (rw [b3];with_reducible exact H) | (have h3:=(Option.bind_some _ _).symm.trans H;rw [b3];with_reducible exact h3) | (have h3:=(Option.bind_some _ _).symm.trans H;with_reducible exact h3) | with_reducible exact H | (rw [b3];exact H) | exact H
   have e4:=A_ b3;clear b3;have H':=A_ H;clear H;have d4:0 ≤ (b1:Int):=of_decide_eq_true (by first | (with_reducible assumption) | assumption);have d5:b1 < (b0.length:Int):=of_decide_eq_true (by first | (with_reducible assumption) | assumption);obtain ⟨e5,h0,b4⟩:=Kd.at_int e9.out b1 d4 d5
   cases h0;replace b4:=(HB.out.cell (World.block_lt_of_cell? w _ b4)).trans b4;replace d4:=eq_true d4;replace d5:=eq_true d5;go_wp2_with (first | (go_at_call 130;(with_reducible refine (shares_claims_halves_1.calls k1 (rd b0 b1) b5 b6 _ A7.out).mono ?_);rintro e w9 ⟨rfl,hb⟩;replace d1:=rB d1 hb;replace b2:=kB b2 hb;replace HB:=bB HB hb;(try clear hb)) | ((with_reducible refine gate_builtin (b:=.append) (xs:=#[.tmp 15,.tmp 19]) rfl ?_);at_builtin;refine Kd.R_append k23 (w0:=w) w.heap.size rfl (.tmp 15) (.tmp 19) 35 23 (.agg #[(.int .i64 0),(.int .i64 0)]) 16 rfl Try.underlying35 info23 rfl (by decide) (by omega) u5 b8 (⟨b5,b6⟩:S23) [.int .i64 b5,.int .i64 b6] (fun _=>True) (fun _=>False) rfl rfl ?aP (fun _ hk=>hk.elim) ?aF ?aO ?aB ?aS ?aL ?_;(case aP=>exact k23_mkM _ _ _ (⟨b5,b6⟩:S23));(case aB=>exact (bl HB));(case aF=>exact (fun _ _=>trivial));(case aO=>exact (rs d1));(case aS=>exact (below_size (bl HB)));(case aL=>have:=h2.out;omega);intro h7 i2 ho hb hg hat;rw [← e4.out] at ho;have e6:=A_ ho;replace b2:=A_ (blk_grown (g:=b7) (o:=.cells #[.slice (some e5) b0.length d0,.int .i64 b9] 94 (0,0)) (kb b2) hg (Kd.R_ne d1.out b2.out (by decide)));replace HB:=A_ hb;clear d1;clear ho hb hg hat));go_roundg k1
   case measure=>have:=h6.out;omega
   case rel=>exact ⟨(d8),(wrap64 (b1 + 1)),(by first | rfl | (simp;done) | (simp [*];done)),H',⟨by have:=h6.out;omega⟩,⟨by (with_reducible repeat (first | apply Kd.R_alloc | apply Kd.R_drewN | apply Kd.R_drew));exact e6.out⟩,⟨by (with_reducible repeat (first | refine blk_drewN ?_ _ | refine blk_drew ?_ | refine blk_alloc ?_ _));exact b2.out⟩,⟨by repeat (first | (with_reducible first | exact HB.out | apply below_alloc | apply pw_below_drewN | apply below_drew1 | refine below_set ?_ c0.out) | exact HB.out)⟩⟩
def shares_claims_halves.f (k:Nat) (b1:List Int) (b3:Int):Option ((List (S23))):=(each_halves.f k b1 b3).bind fun b4=>(some b4)
theorem shares_claims_halves.mono:∀ a0 a1 k,LeO (shares_claims_halves.f k a0 a1) (shares_claims_halves.f (k + 1) a0 a1):=by
 intro a0 a1 k;unfold shares_claims_halves.f
 repeat' first
   | (with_reducible exact each_halves.mono _ _ _)
   | (with_reducible exact LeO.refl _)
   | (with_reducible exact LeO.none _)
   | (with_reducible refine LeO.ite ?_ ?_)
   | (with_reducible refine LeO.bind ?_ (fun _=>?_))
   | exact each_halves.mono _ _ _
   | exact LeO.none _
   | refine LeO.ite ?_ ?_
   | refine LeO.bind ?_ (fun _=>?_)
theorem shares_claims_halves.calls (k:Nat) (b6:Option Addr) (b7:Nat) (b1:List Int) (b3:Int) (r:List (S23)) (w:World) (b8:Kd.C (Kd.int .i64) w b6 b1.length b1) (b9:b1.length ≤ b7) (h:shares_claims_halves.f k b1 b3 = some r) :
  Calls Try.prog 123 #[.agg #[.slice b6 b1.length b7,.int .i64 b3]] w fun e w'=>∃ d9:Value,e = .returned (d9) ∧ Kd.R k23 23 w' w.heap.size (fun _=>True) d9 r ∧ Below w.heap.size w w':=by
 have e4:=Try.underlying94;have c1:=Aside0.mk b8;have d0:=Aside0.mk b9;clear b8 b9;have HB:=Aside0.mk (Below.refl w.heap.size w);have H:((each_halves.f k b1 b3).bind fun b4=>(some b4)) = some r:=h;clear h;replace H:=Option.bind_eq_some_iff.mp H;obtain ⟨b4,e0,H⟩:=H;replace H:(some b4) = some r:=H;have A2:=Aside0.mk e0;clear e0;obtain rfl:=Option.some.inj H;go_enter Try.func123,Try.ntmps123;go_wp2_with (first | ((with_reducible refine gate_dst (N:=1) rfl ?_);refine box_event ?hg (N:=1) ?hd (cs:=#[.slice b6 b1.length b7,.int .i64 b3]) (t:=94) ?hr ?_;(case hd=>rfl);(case hg=>rfl);(case hr=>first | (go_simp;done) | (go_simp;rfl));intro b2 hg w3 hbox hb;have d1:=Aside0.mk (below_step (by repeat (first | (with_reducible first | exact HB.out | apply below_alloc | apply pw_below_drewN | apply below_drew1) | exact HB.out)) hb);have d2:=Aside0.mk (hbox);have d3:=Aside0.mk ((by rw [hg];exact (below_size (by repeat (first | (with_reducible first | exact HB.out | apply below_alloc | apply pw_below_drewN | apply below_drew1) | exact HB.out))):w.heap.size ≤ b2));have e1:=Aside0.mk ((by rw [hg];exact (below_size (by repeat (first | (with_reducible first | exact HB.out | apply below_alloc | apply pw_below_drewN | apply below_drew1) | exact HB.out))):w.heap.size ≤ b2));clear HB;have HB:=d1;have b0:=d2;have d4:=d3;have b5:=e1;clear d1 d2 d3 e1;clear hb hbox hg;have d5:w3.cell? ⟨b2,0,none⟩ = some (.slice b6 b1.length b7):=(blk_cell b0.out 0).trans rfl;have d6:w3.cell? ⟨b2,1,none⟩ = some (.int .i64 b3):=(blk_cell b0.out 1).trans rfl;have d7:=blk_frozen b0.out 0;have d8:=blk_frozen b0.out 1) | ((with_reducible refine gate_callee (f:=120) rfl ?_);refine goesL_ (some 4) rfl rfl Try.func120 (by kernel_rfl) rfl #[.agg #[.slice b6 b1.length b7,.int .i64 b3],.func (.func 130) #[] #[]] rfl (by (try simp only [List.map_toArray,List.map_cons,List.map_nil]);first | done | rfl | (simp only [List.length_drop,List.length_take];rfl)) ?_;(with_reducible refine (each_halves.calls k _ _ b1 b3 b4 _ ?side1 ?side2 A2.out).mono ?_);(case side1=>repeat (first | exact (Kd.C_below c1.out HB.out) | (with_reducible refine Kd.C_alloc ?_ _) | (with_reducible refine Kd.C_drewN ?_ _) | (with_reducible refine Kd.C_drew ?_)));(case side2=>exact d0.out);rintro e w5 ⟨e2,rfl,e3,hb⟩;refine ⟨_,rfl,?_⟩;have d1:=Aside0.mk (Kd.R_lower e3 (below_size (by repeat (first | (with_reducible first | exact HB.out | apply below_alloc | apply pw_below_drewN | apply below_drew1 | refine below_set ?_ b5.out) | exact HB.out))));have d2:=Aside0.mk (blk_below (g:=b2) (o:=.cells #[.slice b6 b1.length b7,.int .i64 b3] 94 (0,0)) (by (with_reducible repeat (first | refine blk_drewN ?_ _ | refine blk_drew ?_ | refine blk_alloc ?_ _));exact b0.out) hb);have d3:=Aside0.mk (below_step (by repeat (first | (with_reducible first | exact HB.out | apply below_alloc | apply pw_below_drewN | apply below_drew1 | refine below_set ?_ b5.out) | exact HB.out)) hb);clear b0;clear HB;have c0:=d1;have b0:=d2;have HB:=d3;clear d1 d2 d3;(try clear hb);(try clear e3)));go_ret;exact ⟨_,by first | rfl | (simp [errW_none,errW_some] <;> rfl) | (simp [*,errW_none,errW_some] <;> rfl),by (with_reducible repeat (first | apply Kd.R_alloc | apply Kd.R_drewN | apply Kd.R_drew));exact c0.out,by repeat (first | (with_reducible first | exact HB.out | apply below_alloc | apply pw_below_drewN | apply below_drew1 | refine below_set ?_ b5.out) | exact HB.out)⟩
end Go.Proofs.Ytjohcjfmlhihbaa.G
namespace Go.Proofs.Ytjohcjfmlhihbaa.G
open Go.RowKit Go.Proofs.YtjohcjfmlhihbaaW.PrintWords Go.Proofs.YtjohcjfmlhihbaaW.PrintLast Go.Proofs.YtjohcjfmlhihbaaW.PrintMore
set_option maxHeartbeats 8000000
set_option maxRecDepth 100000
attribute [local go_sem] cond_true cond_false fld23_0 fld23_1 fld45_0 fld45_1 fld109_0 fld109_1 fld94_0 fld94_1 max2_int min2_int max_two min_two max_three min_three max_four min_four
def shares_claims_talmud.l0:Nat → List (S23) → List (S23) → List Int → Int → Int → Option ((List (S23)))
 | 0,_,_,_,_,_=>none
 | k + 1,x3,x4,n3,x32,i1=>if i1 < x32 then (if 0 ≤ i1 then (if i1 < (n3.length:Int) then ((shares_whole.f (rd n3 i1)).bind fun e7=>(if i1 < (x3.length:Int) then ((shares_minus.f k e7.1 e7.2 ((rd_T23 x3 i1).f0) ((rd_T23 x3 i1).f1)).bind fun e8=>(if x4.length < 8796093022208 then (shares_claims_talmud.l0 k x3 (x4 ++ [(⟨e8.1,e8.2⟩:S23)]) n3 x32 (wrap64 (i1 + 1))) else (none))) else (none))) else (none)) else (none)) else (some x4)
def shares_claims_talmud.f (k:Nat) (b1:List Int) (b2:Int):Option ((List (S23))):=(shares_total.f k b1).bind fun d5=>(if (wrap64 (2 * b2)) ≤ d5 then ((shares_claims_halves.f k b1 b2).bind fun d2=>((shares_whole.f b2).bind fun b7=>((shares_equal.f k d2 b7.1 b7.2).bind fun d3=>(some d3)))) else ((shares_claims_halves.f k b1 b2).bind fun b9=>((shares_total.f k b1).bind fun b8=>((shares_whole.f (wrap64 (b8 - b2))).bind fun b5=>((shares_equal.f k b9 b5.1 b5.2).bind fun b3=>(shares_claims_talmud.l0 k b3 ([]:List (S23)) b1 (b1.length:Int) 0))))))
theorem shares_claims_talmud.mono_l:∀ k,(∀ y0 y1 y2 y3 y4,LeO (shares_claims_talmud.l0 k y0 y1 y2 y3 y4) (shares_claims_talmud.l0 (k + 1) y0 y1 y2 y3 y4))
 | 0=>fun _ _ _ _ _ r h=>by simp [shares_claims_talmud.l0] at h
 | k + 1=>by
  have n4:=shares_claims_talmud.mono_l k;intro y0 y1 y2 y3 y4;unfold shares_claims_talmud.l0
  repeat' first
  | (with_reducible first | exact n4 _ _ _ _ _ | exact shares_claims_halves.mono _ _ _ | exact shares_equal.mono _ _ _ _ | exact shares_minus.mono _ _ _ _ _ | exact shares_total.mono _ _ | exact LeO.refl _ | exact LeO.none _ | refine LeO.ite ?_ ?_ | refine LeO.bind ?_ (fun _=>?_))
  | exact LeO.none _ | refine LeO.ite ?_ ?_ | refine LeO.bind ?_ (fun _=>?_)
theorem shares_claims_talmud.mono:∀ a0 a1 k,LeO (shares_claims_talmud.f k a0 a1) (shares_claims_talmud.f (k + 1) a0 a1):=by
 intro a0 a1 k;have n4:=shares_claims_talmud.mono_l k;unfold shares_claims_talmud.f
 repeat' first
   | (with_reducible first | exact n4 _ _ _ _ _ | exact shares_claims_halves.mono _ _ _ | exact shares_equal.mono _ _ _ _ | exact shares_minus.mono _ _ _ _ _ | exact shares_total.mono _ _ | exact LeO.refl _ | exact LeO.none _ | refine LeO.ite ?_ ?_ | refine LeO.bind ?_ (fun _=>?_))
   | exact LeO.none _ | refine LeO.ite ?_ ?_ | refine LeO.bind ?_ (fun _=>?_)
def shares_claims_talmud.T3:Bool × List (List Nat × List Nat):=(true,[([],[]),([0],[0]),([],[]),([2],[2]),([3,1],[3]),([],[]),([5],[5]),([4,6],[4,6]),([7,4],[7]),([1,8,8],[1,8]),([9,9,0,1,2,3,4,5,6,7,8,9],[9])])
def shares_claims_talmud.B3:List Nat:=[0,1,0,4,15,0,32,127,255,511,1023]
theorem shares_claims_talmud.tab3:rtab .any (opsOf Try.f100 3) = shares_claims_talmud.T3:=by kernel_rfl
theorem shares_claims_talmud.bits3:waitsOk shares_claims_talmud.T3.2 shares_claims_talmud.B3 = true:=by kernel_rfl
def shares_claims_talmud.T8:Bool × List (List Nat × List Nat):=(true,[([],[]),([],[]),([1],[1]),([],[]),([],[]),([3,4],[3,4]),([5],[5]),([2,6,2],[2,6]),([7],[7]),([0,8,7],[0,8]),([9,9,0,1,2,3,4,5,6,7,8,9],[0,9])])
def shares_claims_talmud.B8:List Nat:=[0,0,2,0,0,24,56,126,254,511,1023]
theorem shares_claims_talmud.tab8:rtab .any (opsOf Try.f100 8) = shares_claims_talmud.T8:=by kernel_rfl
theorem shares_claims_talmud.bits8:waitsOk shares_claims_talmud.T8.2 shares_claims_talmud.B8 = true:=by kernel_rfl
theorem shares_claims_talmud.calls (k:Nat) (c0:Option Addr) (c1:Nat) (b1:List Int) (b2:Int) (r:List (S23)) (w:World) (i2:Kd.C (Kd.int .i64) w c0 b1.length b1) (i3:b1.length ≤ c1) (h:shares_claims_talmud.f k b1 b2 = some r) :
  Calls Try.prog 100 #[.agg #[.slice c0 b1.length c1,.int .i64 b2]] w fun e w'=>∃ o4:Value,e = .returned (o4) ∧ Kd.R k23 23 w' w.heap.size (fun _=>True) o4 r ∧ Below w.heap.size w w':=by
 have q1:=Try.underlying94;have q2:=Try.underlying23;have d8:=A_ i2;have e0:=A_ i3;clear i2 i3;have HB:=A_ (Below.refl w.heap.size w);have H:((shares_total.f k b1).bind fun d5=>(if (wrap64 (2 * b2)) ≤ d5 then ((shares_claims_halves.f k b1 b2).bind fun d2=>((shares_whole.f b2).bind fun b7=>((shares_equal.f k d2 b7.1 b7.2).bind fun d3=>(some d3)))) else ((shares_claims_halves.f k b1 b2).bind fun b9=>((shares_total.f k b1).bind fun b8=>((shares_whole.f (wrap64 (b8 - b2))).bind fun b5=>((shares_equal.f k b9 b5.1 b5.2).bind fun b3=>(shares_claims_talmud.l0 k b3 ([]:List (S23)) b1 (b1.length:Int) 0))))))) = some r:=h;clear h;replace H:=Option.bind_eq_some_iff.mp H;obtain ⟨d5,o5,H⟩:=H;replace H:(if (wrap64 (2 * b2)) ≤ d5 then ((shares_claims_halves.f k b1 b2).bind fun d2=>((shares_whole.f b2).bind fun b7=>((shares_equal.f k d2 b7.1 b7.2).bind fun d3=>(some d3)))) else ((shares_claims_halves.f k b1 b2).bind fun b9=>((shares_total.f k b1).bind fun b8=>((shares_whole.f (wrap64 (b8 - b2))).bind fun b5=>((shares_equal.f k b9 b5.1 b5.2).bind fun b3=>(shares_claims_talmud.l0 k b3 ([]:List (S23)) b1 (b1.length:Int) 0)))))) = some r:=H;have A2:=A_ o5;clear o5;by_cases c3:(wrap64 (2 * b2)) ≤ d5
 ·rw [if_pos c3] at H;have n5:=decide_eq_true c3;clear c3;replace H:=Option.bind_eq_some_iff.mp H;obtain ⟨d2,o6,H⟩:=H;replace H:((shares_whole.f b2).bind fun b7=>((shares_equal.f k d2 b7.1 b7.2).bind fun d3=>(some d3))) = some r:=H;have A4:=A_ o6;clear o6;replace H:=Option.bind_eq_some_iff.mp H;obtain ⟨⟨e9,h0⟩,A50,H⟩:=H;dsimp only at H;have A5:=A_ A50;clear A50;replace H:=Option.bind_eq_some_iff.mp H;obtain ⟨d3,o7,H⟩:=H;replace H:(some d3) = some r:=H;have A6:=A_ o7;clear o7;obtain rfl:=Option.some.inj H;go_enter Try.func100,Try.ntmps100;try go_wp2_with (first | ((with_reducible refine gate_dst (N:=1) rfl ?_);refine bx 1 #[.slice c0 b1.length c1,.int .i64 b2] 94 ?_;intro b6 hg w7 hbox hb;have b0:=A_ hbox;have e5:=gw hg HB;have i8:=e5;replace HB:=bB HB hb;clear hb hbox hg))
  replace b0:=kD b0;replace HB:=bD HB;refine start_ (n:=7) (S:=fun w'=>w'.cell? ⟨b6,0,none⟩ = some (.slice c0 b1.length c1) ∧ w'.cell? ⟨b6,1,none⟩ = some (.int .i64 b2)) (ds:=[]) (ba 7 0) (by kernel_rfl) rfl rfl ⟨cz b0 0,cz b0 1⟩ (fun hHeld=>?_);generalize w7.drew = w8 at b0 HB hHeld ⊢;refine pr 0 7 1 ?_;refine pr 3 10 9 ?_;refine tr 1 8 11 hHeld ?_;refine pr 2 9 15 ?_;refine tr 4 11 31 hHeld ?_;refine os 5 12 63 (fun K hK=>?_);refine gq Try.func93 #[.slice c0 b1.length c1] ?_;with_reducible refine (shares_total.calls k _ _ b1 d5 _ ?side1 ?side2 A2.out).mono ?_;(case side1=>exact cB d8 HB)
  (case side2=>exact e0.out)
  rintro e w' ⟨rfl,⟨nd,rfl⟩⟩;refine ⟨_,rfl,?_⟩;refine hz hK (fun hHeld=>?_);clear hK K;refine nq 12 ?_;refine pr 6 13 127 ?_;refine done_ (by kernel_rfl) ?_;try go_wp2
  (try (rw [drewN_self w8];generalize hq_:World.drewN w8 _ = w8;replace b0:Aside0 (w8.heap[b6]? = some (.cells #[.slice c0 b1.length c1,.int .i64 b2] 94 (0,0))):=⟨by rw [← hq_];exact b0.out⟩;replace HB:Aside0 (Below w.heap.size w w8):=⟨by rw [← hq_];exact (bl HB)⟩;clear hq_))
  replace b0:=kD b0;replace HB:=bD HB;refine start_ (n:=7) (S:=fun w'=>w'.cell? ⟨b6,0,none⟩ = some (.slice c0 b1.length c1) ∧ w'.cell? ⟨b6,1,none⟩ = some (.int .i64 b2)) (ds:=[]) (ba 7 0) (by kernel_rfl) rfl rfl ⟨cz b0 0,cz b0 1⟩ (fun hHeld=>?_);generalize w8.drew = w9 at b0 HB hHeld ⊢;refine pr 2 16 4 ?_;refine tr 0 14 5 hHeld ?_;refine tr 3 17 13 hHeld ?_;refine os 1 15 15 (fun K hK=>?_);refine gq Try.func123 #[.agg #[.slice c0 b1.length c1,.int .i64 b2]] ?_;with_reducible refine (shares_claims_halves.calls k _ _ b1 b2 d2 _ ?side1 ?side2 A4.out).mono ?_;(case side1=>exact cB d8 HB)
  (case side2=>exact e0.out)
  rintro e r2 ⟨o8,rfl,i0,hb⟩;refine ⟨_,rfl,?_⟩;have d0:=A_ (Kd.R_lower i0 (below_size (bl HB)));replace b0:=kB b0 hb;replace HB:=bB HB hb;(try clear hb)
  refine hz hK (fun hHeld=>?_);clear hK K;refine nq 15 ?_;refine os 4 18 31 (fun K hK=>?_);refine gq Try.func64 #[.int .i64 b2] ?_;with_reducible refine (shares_whole.calls b2 e9 h0 _ A5.out).mono ?_;rintro e r3 ⟨rfl,hb⟩;refine ⟨_,rfl,?_⟩;replace d0:=rB d0 hb;replace b0:=kB b0 hb;replace HB:=bB HB hb;(try clear hb)
  obtain ⟨n6,n7,l6⟩:=Kd.R_slice d0.out;(first | subst l6 | (injection l6 with i4 l7 i5;have l8:=i4.symm;have l9:=i5.symm;clear i4 l7 i5;subst l8;subst l9))
  refine hz hK (fun hHeld=>?_);clear hK K;refine nq 18 ?_;refine os 5 19 63 (fun K hK=>?_);refine gq Try.func122 #[.slice n6 d2.length n7,.agg #[.int .i64 e9,.int .i64 h0]] ?_;with_reducible refine (shares_equal.calls k _ _ d2 e9 h0 d3 _ ?side1 ?side2 A6.out).mono ?_;(case side1=>repeat (first | exact (Kd.R_reads' d0.out).2.2 | (with_reducible refine Kd.C_alloc ?_ _) | (with_reducible refine Kd.C_drewN ?_ _) | (with_reducible refine Kd.C_drew ?_)))
  (case side2=>exact (Kd.R_reads' d0.out).2.1)
  rintro e r4 ⟨o9,rfl,i0,hb⟩;refine ⟨_,rfl,?_⟩;have i9:=A_ (Kd.R_lower (Kd.R_new' i0 (Kd.R_lt d0.out)) (below_size HB.out));replace d0:=A_ (Kd.R_elder' d0.out (Kd.R_base i0) hb);replace b0:=kB b0 hb;replace HB:=bB HB hb;(try clear hb)
  refine hz hK (fun hHeld=>?_);clear hK K;refine nq 19 ?_;refine pr 6 2 127 ?_;refine done_ (by kernel_rfl) ?_;try go_wp2
  go_ret;exact ⟨_,rfl,by exact Kd.R_mono i9.out (fun _ hk=>trivial),bl HB⟩
 rw [if_neg c3] at H;have n5:=decide_eq_false c3;clear c3;replace H:=Option.bind_eq_some_iff.mp H;obtain ⟨b9,m0,H⟩:=H;replace H:((shares_total.f k b1).bind fun b8=>((shares_whole.f (wrap64 (b8 - b2))).bind fun b5=>((shares_equal.f k b9 b5.1 b5.2).bind fun b3=>(shares_claims_talmud.l0 k b3 ([]:List (S23)) b1 (b1.length:Int) 0)))) = some r:=H;have q3:=A_ m0;clear m0;replace H:=Option.bind_eq_some_iff.mp H;obtain ⟨b8,m1,H⟩:=H;replace H:((shares_whole.f (wrap64 (b8 - b2))).bind fun b5=>((shares_equal.f k b9 b5.1 b5.2).bind fun b3=>(shares_claims_talmud.l0 k b3 ([]:List (S23)) b1 (b1.length:Int) 0))) = some r:=H;have q4:=A_ m1;clear m1;replace H:=Option.bind_eq_some_iff.mp H;obtain ⟨⟨h1,h2⟩,A160,H⟩:=H;dsimp only at H;have q5:=A_ A160;clear A160;replace H:=Option.bind_eq_some_iff.mp H;obtain ⟨b3,m2,H⟩:=H;replace H:(shares_claims_talmud.l0 k b3 ([]:List (S23)) b1 (b1.length:Int) 0) = some r:=H;have q6:=A_ m2;clear m2;have H':=A_ H;clear H;go_enter Try.func100,Try.ntmps100;try go_wp2_with (first | ((with_reducible refine gate_dst (N:=1) rfl ?_);refine bx 1 #[.slice c0 b1.length c1,.int .i64 b2] 94 ?_;intro b6 hg q7 hbox hb;have b0:=A_ hbox;have e5:=gw hg HB;have i8:=e5;replace HB:=bB HB hb;clear hb hbox hg))
 replace b0:=kD b0;replace HB:=bD HB;refine start_ (n:=7) (S:=fun w'=>w'.cell? ⟨b6,0,none⟩ = some (.slice c0 b1.length c1) ∧ w'.cell? ⟨b6,1,none⟩ = some (.int .i64 b2)) (ds:=[]) (ba 7 0) (by kernel_rfl) rfl rfl ⟨cz b0 0,cz b0 1⟩ (fun hHeld=>?_);generalize q7.drew = j9 at b0 HB hHeld ⊢;refine pr 0 7 1 ?_;refine pr 3 10 9 ?_;refine tr 1 8 11 hHeld ?_;refine pr 2 9 15 ?_;refine tr 4 11 31 hHeld ?_;refine os 5 12 63 (fun K hK=>?_);refine gq Try.func93 #[.slice c0 b1.length c1] ?_;with_reducible refine (shares_total.calls k _ _ b1 d5 _ ?side1 ?side2 A2.out).mono ?_;(case side1=>exact cB d8 HB)
 (case side2=>exact e0.out)
 rintro e w' ⟨rfl,⟨nd,rfl⟩⟩;refine ⟨_,rfl,?_⟩;refine hz hK (fun hHeld=>?_);clear hK K;refine nq 12 ?_;refine pr 6 13 127 ?_;refine done_ (by kernel_rfl) ?_;try go_wp2
 (try (rw [drewN_self j9];generalize hq_:World.drewN j9 _ = j9;replace b0:Aside0 (j9.heap[b6]? = some (.cells #[.slice c0 b1.length c1,.int .i64 b2] 94 (0,0))):=⟨by rw [← hq_];exact b0.out⟩;replace HB:Aside0 (Below w.heap.size w j9):=⟨by rw [← hq_];exact (bl HB)⟩;clear hq_))
 replace b0:=kD b0;replace HB:=bD HB;refine st 11 (fun w'=>w'.cell? ⟨b6,0,none⟩ = some (.slice c0 b1.length c1) ∧ w'.cell? ⟨b6,1,none⟩ = some (.int .i64 b2)) [] shares_claims_talmud.tab3 shares_claims_talmud.bits3 (fun hHeld HT_ HW_=>?_);generalize j9.drew = r5 at b0 HB hHeld ⊢;refine pq 2 22 4 HT_ ?_;refine pq 5 25 36 HT_ ?_;refine tq 0 20 37 HT_ HW_ hHeld ?_;refine tq 3 23 45 HT_ HW_ hHeld ?_;refine tq 6 26 109 HT_ HW_ hHeld ?_;refine oq 1 21 111 HT_ (fun K hK=>?_);refine gq Try.func123 #[.agg #[.slice c0 b1.length c1,.int .i64 b2]] ?_;with_reducible refine (shares_claims_halves.calls k _ _ b1 b2 b9 _ ?side1 ?side2 q3.out).mono ?_;(case side1=>exact cB d8 HB)
 (case side2=>exact e0.out)
 rintro e r6 ⟨p0,rfl,i0,hb⟩;refine ⟨_,rfl,?_⟩;have d1:=A_ (Kd.R_lower i0 (below_size (bl HB)));replace b0:=kB b0 hb;replace HB:=bB HB hb;(try clear hb)
 refine hz hK (fun hHeld=>?_);clear hK K;refine nq 21 ?_;refine oq 4 24 127 HT_ (fun K hK=>?_);refine gq Try.func93 #[.slice c0 b1.length c1] ?_;with_reducible refine (shares_total.calls k _ _ b1 b8 _ ?side1 ?side2 q4.out).mono ?_;(case side1=>exact cB d8 HB)
 (case side2=>exact e0.out)
 rintro e w' ⟨rfl,⟨nd,rfl⟩⟩;refine ⟨_,rfl,?_⟩;refine hz hK (fun hHeld=>?_);clear hK K;refine nq 24 ?_;refine pq 7 27 255 HT_ ?_;refine oq 8 28 511 HT_ (fun K hK=>?_);refine gq Try.func64 #[.int .i64 (wrap64 (b8 - b2))] ?_;with_reducible refine (shares_whole.calls (wrap64 (b8 - b2)) h1 h2 _ q5.out).mono ?_;rintro e r7 ⟨rfl,hb⟩;refine ⟨_,rfl,?_⟩;replace d1:=rB d1 hb;replace b0:=kB b0 hb;replace HB:=bB HB hb;(try clear hb)
 obtain ⟨n8,n9,m3⟩:=Kd.R_slice d1.out;(first | subst m3 | (injection m3 with i4 l7 i5;have l8:=i4.symm;have l9:=i5.symm;clear i4 l7 i5;subst l8;subst l9))
 refine hz hK (fun hHeld=>?_);clear hK K;refine nq 28 ?_;refine oq 9 29 1023 HT_ (fun K hK=>?_);refine gq Try.func122 #[.slice n8 b9.length n9,.agg #[.int .i64 h1,.int .i64 h2]] ?_;with_reducible refine (shares_equal.calls k _ _ b9 h1 h2 b3 _ ?side1 ?side2 q6.out).mono ?_;(case side1=>repeat (first | exact (Kd.R_reads' d1.out).2.2 | (with_reducible refine Kd.C_alloc ?_ _) | (with_reducible refine Kd.C_drewN ?_ _) | (with_reducible refine Kd.C_drew ?_)))
 (case side2=>exact (Kd.R_reads' d1.out).2.1)
 rintro e p1 ⟨i6,rfl,i0,hb⟩;refine ⟨_,rfl,?_⟩;have j5:=A_ (Kd.R_lower (Kd.R_new' i0 (Kd.R_lt d1.out)) (below_size HB.out));replace d1:=A_ (Kd.R_elder' d1.out (Kd.R_base i0) hb);replace b0:=kB b0 hb;replace HB:=bB HB hb;(try clear hb)
 refine hz hK (fun hHeld=>?_);clear hK K;refine nq 29 ?_;refine pq 10 3 2047 HT_ ?_;refine done_ (done_of HT_.out (by kernel_rfl)) ?_;have m9:p1.cell? ⟨b6,0,none⟩ = some (.slice c0 b1.length c1):=cz b0 0;have n0:p1.cell? ⟨b6,1,none⟩ = some (.int .i64 b2):=cz b0 1;have n1:=blk_frozen b0.out 0;have n2:=blk_frozen b0.out 1;try go_wp2
 go_loopg [4,33] k (fun kq v4 q8 w'=>∃ (h3:List (S23)) (b4:Int),q8 = .int .i64 b4 ∧ Aside0 (shares_claims_talmud.l0 kq b3 h3 b1 (b1.length:Int) b4 = some r) ∧ Aside0 (kq ≤ k) ∧ Aside0 (Kd.R k23 23 w' w.heap.size (fun k_=>some k_ ≠ (v4:Value).ownBlock) i6 b3) ∧ Aside0 (Kd.R k23 23 w' w.heap.size (fun k_=>some k_ ≠ (i6:Value).ownBlock) v4 h3) ∧ Aside0 (w'.heap[b6]? = some (.cells #[(.slice c0 b1.length c1),.int .i64 b2] 94 (0,0))) ∧ Aside0 (Below w.heap.size w w'))
 case atStart=>exact ⟨(([]:List (S23))),(0),rfl,H',⟨Nat.le_refl _⟩,⟨by exact Kd.R_mono j5.out (fun _ hk=>(by simp [Value.ownBlock]))⟩,⟨by first | exact Kd.R_nil _ _ _ _ _ | exact Kd.N_nil _ _ _ _ _ | exact Kd.V_nil _ _ _ _ _ | exact Kd.Q_nil _ _ _ _ _ | exact Kd.S_nil _ _ _ _ _⟩,⟨by exact b0.out⟩,⟨bl HB⟩⟩
 case round =>
  clear H';obtain ⟨h3,b4,rfl,HA,p2,d4,d6,b0,HB⟩:=hrel
  cases gk with
  | zero=>exact absurd HA.out (by simp [shares_claims_talmud.l0])
  | succ k1 =>
   have H:=HA.out;clear HA;simp only [shares_claims_talmud.l0] at H;by_cases l5:b4 < (b1.length:Int)
   case neg =>
    rw [if_neg l5] at H;have m4:=decide_eq_false l5;clear l5;obtain rfl:=Option.some.inj H;go_wp2;go_ret;exact ⟨_,rfl,by exact Kd.R_mono d6.out (fun _ hk=>trivial),bl HB⟩
   rw [if_pos l5] at H;have m4:=decide_eq_true l5;clear l5;replace H:=gd H;obtain ⟨p3,H⟩:=H;have p4:=decide_eq_true p3;clear p3;replace H:=gd H;obtain ⟨p5,H⟩:=H;have p6:=decide_eq_true p5;clear p5;replace H:=Option.bind_eq_some_iff.mp H;obtain ⟨⟨h4,h5⟩,A290,H⟩:=H;dsimp only at H;have q9:=A_ A290;clear A290;replace H:=gd H;obtain ⟨p7,H⟩:=H;have p8:=decide_eq_true p7;clear p7;replace H:=Option.bind_eq_some_iff.mp H;obtain ⟨⟨e1,e2⟩,A310,H⟩:=H;dsimp only at H;have r0:=A_ A310;clear A310;replace H:=gd H;obtain ⟨p9,H⟩:=H;have m5:=A_ p9;clear p9;obtain ⟨i7,e6⟩:∃ y_:List (S23),y_ = (h3 ++ [(⟨e1,e2⟩:S23)]):=⟨_,rfl⟩
   replace H:(shares_claims_talmud.l0 k1 b3 i7 b1 (b1.length:Int) (wrap64 (b4 + 1))) = some r:=by rw [e6];exact H
   have j7:=A_ e6;clear e6;have H':=A_ H;clear H;have h6:0 ≤ (b4:Int):=of_decide_eq_true (by assumption);have h7:b4 < (b1.length:Int):=of_decide_eq_true (by assumption);obtain ⟨o0,m6,d7⟩:=Kd.at_int d8.out b4 h6 h7
   cases m6;replace d7:=(HB.out.cell (World.block_lt_of_cell? w _ d7)).trans d7;replace h6:=eq_true h6;replace h7:=eq_true h7;try go_wp2
   replace d4:=rD d4;replace d6:=rD d6;replace b0:=kD b0;replace HB:=bD HB;obtain ⟨r1,o1,m7⟩:=Kd.R_slice d4.out;(first | subst m7 | (injection m7 with i4 l7 i5;have l8:=i4.symm;have l9:=i5.symm;clear i4 l7 i5;subst l8;subst l9))
   have h8:0 ≤ (b4:Int):=of_decide_eq_true (by assumption);have h9:b4 < (b3.length:Int):=of_decide_eq_true (by assumption);obtain ⟨d9,m8,e3,e4⟩:=at_T23 (Kd.R_reads' d4.out).2.2 b4 h8 h9
   cases m8;replace h8:=eq_true h8;replace h9:=eq_true h9;refine start_ (n:=11) (S:=fun w'=>w'.cell? (d9.add ((b4).toNat * 2)) = some (.int .i64 ((rd_T23 b3 b4).f0)) ∧ w'.cell? ⟨(d9.add ((b4).toNat * 2)).block,(d9.add ((b4).toNat * 2)).off + 1,none⟩ = some (.int .i64 ((rd_T23 b3 b4).f1))) (ds:=[8,9]) (ba 11 0) (by kernel_rfl) rfl rfl ⟨e3,e4⟩ (fun hHeld=>?_);refine with_tabW shares_claims_talmud.tab8 shares_claims_talmud.bits8 (fun HT_ HW_=>?_);generalize wr.drew = r8 at d4 d6 b0 HB e3 e4 hHeld ⊢;refine pq 0 38 1 HT_ ?_;refine pq 1 39 3 HT_ ?_;refine pq 3 41 11 HT_ ?_;refine pq 4 42 27 HT_ ?_;refine pq 5 43 59 HT_ ?_;refine tq 6 44 123 HT_ HW_ hHeld ?_;refine oq 2 40 127 HT_ (fun K hK=>?_);refine gq Try.func64 #[.int .i64 (rd b1 b4)] ?_;with_reducible refine (shares_whole.calls (rd b1 b4) h4 h5 _ q9.out).mono ?_;rintro e r9 ⟨rfl,hb⟩;have o2:=(hb.cell (World.block_lt_of_cell? _ _ (hHeld.1))).trans (hHeld.1);have o3:=(hb.cell (World.block_lt_of_cell? _ _ (hHeld.2))).trans (hHeld.2);refine ⟨_,rfl,?_⟩;replace d4:=rB d4 hb;replace d6:=rB d6 hb;replace b0:=kB b0 hb;replace HB:=bB HB hb;(try clear hb)
   refine hz hK (fun hHeld=>?_);clear hK K;refine nq 40 ?_;refine oq 7 45 255 HT_ (fun K hK=>?_);refine gq Try.func95 #[.agg #[.int .i64 h4,.int .i64 h5],.agg #[.int .i64 ((rd_T23 b3 b4).f0),.int .i64 ((rd_T23 b3 b4).f1)]] ?_;with_reducible refine (shares_minus.calls k1 h4 h5 ((rd_T23 b3 b4).f0) ((rd_T23 b3 b4).f1) e1 e2 _ r0.out).mono ?_;rintro e s0 ⟨rfl,hb⟩;have o2:=(hb.cell (World.block_lt_of_cell? _ _ (hHeld.1))).trans (hHeld.1);have o3:=(hb.cell (World.block_lt_of_cell? _ _ (hHeld.2))).trans (hHeld.2);refine ⟨_,rfl,?_⟩;replace d4:=rB d4 hb;replace d6:=rB d6 hb;replace b0:=kB b0 hb;replace HB:=bB HB hb;(try clear hb)
   refine hz hK (fun hHeld=>?_);clear hK K;refine nq 45 ?_;refine last_ (i:=8) (N:=some 46) (ba 11 511) rfl rfl (one_of HT_.out (by kernel_rfl)) (by decide) (fun K hK=>?_);refine value_ (w1:=?_) (v:=?_) (by rfl) rfl ?_ ?_;rotate_left 2
   ·go_simp;constructor
    ·rfl
    rfl
   refine hK.out _ _ ?_;clear hK K;refine nq 46 ?_;refine last_ (i:=9) (N:=some 47) (ba 11 1023) rfl rfl (one_of HT_.out (by kernel_rfl)) (by decide) (fun K hK=>?_);refine Kd.R_append_step k23 (w0:=w) w.heap.size (by rfl) (.tmp 38) (.tmp 46) 35 23 (.agg #[(.int .i64 0),(.int .i64 0)]) 16 rfl Try.underlying35 info23 rfl (by decide) (by omega) u4 h3 (⟨e1,e2⟩:S23) [.int .i64 e1,.int .i64 e2] (fun k_=>some k_ ≠ (.slice (some d9) b3.length o1:Value).ownBlock) (fun _=>False) rfl rfl ?aP (fun _ hk=>hk.elim) ?aF ?aO ?aB ?aS ?aL ?_;(case aP=>exact k23_mkM _ _ _ (⟨e1,e2⟩:S23))
   (case aB=>exact HB.out)
   (case aF=>exact (fun k_ hk=>Kd.fresh' (Kd.R_lt d4.out) k_ hk))
   (case aO=>exact d6.out)
   (case aS=>exact (below_size HB.out))
   (case aL=>have:=m5.out;omega)
   intro q0 s1 ho hb hg hat;rw [← j7.out] at ho;have j8:=A_ ho;replace d4:=A_ (Kd.R_after (ok:=(fun _=>True)) (by exact Kd.R_mono d4.out (fun _ hk=>⟨trivial,hk⟩)) hg hat);replace b0:=A_ (blk_grown b0.out hg (Kd.R_ne d6.out b0.out (by decide)));replace HB:=A_ hb;clear d6 ho hb hg hat;refine hK.out _ _ ?_;clear hK K;refine nq 47 ?_;refine pq 10 4 2047 HT_ ?_;refine done_ (done_of HT_.out (by kernel_rfl)) ?_;try go_wp2
   go_roundg k1
   case measure=>have:=p2.out;omega
   case rel=>exact ⟨(i7),(wrap64 (b4 + 1)),rfl,H',⟨by have:=p2.out;omega⟩,⟨by exact Kd.R_mono d4.out (fun _ hk=>hk.2)⟩,⟨by exact j8.out⟩,⟨by exact b0.out⟩,⟨bl HB⟩⟩
def shares_claims_piniles.l0:Nat → List (S23) → List (S23) → List (S23) → Int → Int → Option ((List (S23)))
 | 0,_,_,_,_,_=>none
 | k + 1,x3,x4,o7,x33,l5=>if l5 < x33 then (if 0 ≤ l5 then (if l5 < (o7.length:Int) then (if l5 < (x3.length:Int) then ((shares_add.f k ((rd_T23 o7 l5).f0) ((rd_T23 o7 l5).f1) ((rd_T23 x3 l5).f0) ((rd_T23 x3 l5).f1)).bind fun i2=>(if x4.length < 8796093022208 then (shares_claims_piniles.l0 k x3 (x4 ++ [(⟨i2.1,i2.2⟩:S23)]) o7 x33 (wrap64 (l5 + 1))) else (none))) else (none)) else (none)) else (none)) else (some x4)
def shares_claims_piniles.f (k:Nat) (b5:List Int) (b4:Int):Option ((List (S23))):=(shares_total.f k b5).bind fun e3=>(if (wrap64 (2 * b4)) ≤ e3 then ((shares_claims_halves.f k b5 b4).bind fun d9=>((shares_whole.f b4).bind fun d0=>((shares_equal.f k d9 d0.1 d0.2).bind fun e0=>(some e0)))) else ((shares_claims_halves.f k b5 b4).bind fun d6=>((shares_whole.f b4).bind fun d1=>((shares_total.f k b5).bind fun d5=>((shares_frac.f k d5 2).bind fun c0=>((shares_minus.f k d1.1 d1.2 c0.1 c0.2).bind fun c1=>((shares_equal.f k d6 c1.1 c1.2).bind fun b6=>((shares_claims_halves.f k b5 b4).bind fun b1=>(shares_claims_piniles.l0 k b6 ([]:List (S23)) b1 (b1.length:Int) 0)))))))))
theorem shares_claims_piniles.mono_l:∀ k,(∀ y0 y1 y2 y3 y4,LeO (shares_claims_piniles.l0 k y0 y1 y2 y3 y4) (shares_claims_piniles.l0 (k + 1) y0 y1 y2 y3 y4))
 | 0=>fun _ _ _ _ _ r h=>by simp [shares_claims_piniles.l0] at h
 | k + 1=>by
  have p7:=shares_claims_piniles.mono_l k;intro y0 y1 y2 y3 y4;unfold shares_claims_piniles.l0
  repeat' first
  | (with_reducible first | exact p7 _ _ _ _ _ | exact shares_add.mono _ _ _ _ _ | exact shares_claims_halves.mono _ _ _ | exact shares_equal.mono _ _ _ _ | exact shares_frac.mono _ _ _ | exact shares_minus.mono _ _ _ _ _ | exact shares_total.mono _ _ | exact LeO.refl _ | exact LeO.none _ | refine LeO.ite ?_ ?_ | refine LeO.bind ?_ (fun _=>?_))
  | exact LeO.none _ | refine LeO.ite ?_ ?_ | refine LeO.bind ?_ (fun _=>?_)
theorem shares_claims_piniles.mono:∀ a0 a1 k,LeO (shares_claims_piniles.f k a0 a1) (shares_claims_piniles.f (k + 1) a0 a1):=by
 intro a0 a1 k;have p7:=shares_claims_piniles.mono_l k;unfold shares_claims_piniles.f
 repeat' first
   | (with_reducible first | exact p7 _ _ _ _ _ | exact shares_add.mono _ _ _ _ _ | exact shares_claims_halves.mono _ _ _ | exact shares_equal.mono _ _ _ _ | exact shares_frac.mono _ _ _ | exact shares_minus.mono _ _ _ _ _ | exact shares_total.mono _ _ | exact LeO.refl _ | exact LeO.none _ | refine LeO.ite ?_ ?_ | refine LeO.bind ?_ (fun _=>?_))
   | exact LeO.none _ | refine LeO.ite ?_ ?_ | refine LeO.bind ?_ (fun _=>?_)
def shares_claims_piniles.T3:Bool × List (List Nat × List Nat):=(true,[([],[]),([0],[0]),([],[]),([2],[2]),([3,1],[3]),([],[]),([5],[5]),([6,4],[6]),([7,7],[7]),([4,8,8],[4,8]),([1,9,9],[1,9]),([10,10,0,1,2,3,4,5,6,7,8,9,10],[10])])
def shares_claims_piniles.B3:List Nat:=[0,1,0,4,15,0,32,127,255,511,1023,2047]
theorem shares_claims_piniles.tab3:rtab .any (opsOf Try.f101 3) = shares_claims_piniles.T3:=by kernel_rfl
theorem shares_claims_piniles.bits3:waitsOk shares_claims_piniles.T3.2 shares_claims_piniles.B3 = true:=by kernel_rfl
def shares_claims_piniles.T8:Bool × List (List Nat × List Nat):=(true,[([],[]),([],[]),([],[]),([],[]),([2,3],[2,3]),([4],[4]),([1,5],[1,5]),([6],[6]),([0,7,6],[0,7]),([8,8,0,1,2,3,4,5,6,7,8],[0,8])])
def shares_claims_piniles.B8:List Nat:=[0,0,0,0,12,28,62,126,255,511]
theorem shares_claims_piniles.tab8:rtab .any (opsOf Try.f101 8) = shares_claims_piniles.T8:=by kernel_rfl
theorem shares_claims_piniles.bits8:waitsOk shares_claims_piniles.T8.2 shares_claims_piniles.B8 = true:=by kernel_rfl
theorem shares_claims_piniles.calls (k:Nat) (d3:Option Addr) (d4:Nat) (b5:List Int) (b4:Int) (r:List (S23)) (w:World) (l7:Kd.C (Kd.int .i64) w d3 b5.length b5) (l8:b5.length ≤ d4) (h:shares_claims_piniles.f k b5 b4 = some r) :
  Calls Try.prog 101 #[.agg #[.slice d3 b5.length d4,.int .i64 b4]] w fun e w'=>∃ r1:Value,e = .returned (r1) ∧ Kd.R k23 23 w' w.heap.size (fun _=>True) r1 r ∧ Below w.heap.size w w':=by
 have t0:=Try.underlying94;have t1:=Try.underlying23;have e6:=A_ l7;have e7:=A_ l8;clear l7 l8;have HB:=A_ (Below.refl w.heap.size w);have H:((shares_total.f k b5).bind fun e3=>(if (wrap64 (2 * b4)) ≤ e3 then ((shares_claims_halves.f k b5 b4).bind fun d9=>((shares_whole.f b4).bind fun d0=>((shares_equal.f k d9 d0.1 d0.2).bind fun e0=>(some e0)))) else ((shares_claims_halves.f k b5 b4).bind fun d6=>((shares_whole.f b4).bind fun d1=>((shares_total.f k b5).bind fun d5=>((shares_frac.f k d5 2).bind fun c0=>((shares_minus.f k d1.1 d1.2 c0.1 c0.2).bind fun c1=>((shares_equal.f k d6 c1.1 c1.2).bind fun b6=>((shares_claims_halves.f k b5 b4).bind fun b1=>(shares_claims_piniles.l0 k b6 ([]:List (S23)) b1 (b1.length:Int) 0)))))))))) = some r:=h;clear h;replace H:=Option.bind_eq_some_iff.mp H;obtain ⟨e3,o8,H⟩:=H;replace H:(if (wrap64 (2 * b4)) ≤ e3 then ((shares_claims_halves.f k b5 b4).bind fun d9=>((shares_whole.f b4).bind fun d0=>((shares_equal.f k d9 d0.1 d0.2).bind fun e0=>(some e0)))) else ((shares_claims_halves.f k b5 b4).bind fun d6=>((shares_whole.f b4).bind fun d1=>((shares_total.f k b5).bind fun d5=>((shares_frac.f k d5 2).bind fun c0=>((shares_minus.f k d1.1 d1.2 c0.1 c0.2).bind fun c1=>((shares_equal.f k d6 c1.1 c1.2).bind fun b6=>((shares_claims_halves.f k b5 b4).bind fun b1=>(shares_claims_piniles.l0 k b6 ([]:List (S23)) b1 (b1.length:Int) 0))))))))) = some r:=H;have A2:=A_ o8;clear o8;by_cases c3:(wrap64 (2 * b4)) ≤ e3
 ·rw [if_pos c3] at H;have p8:=decide_eq_true c3;clear c3;replace H:=Option.bind_eq_some_iff.mp H;obtain ⟨d9,r2,H⟩:=H;replace H:((shares_whole.f b4).bind fun d0=>((shares_equal.f k d9 d0.1 d0.2).bind fun e0=>(some e0))) = some r:=H;have A4:=A_ r2;clear r2;replace H:=Option.bind_eq_some_iff.mp H;obtain ⟨⟨i3,i4⟩,A50,H⟩:=H;dsimp only at H;have A5:=A_ A50;clear A50;replace H:=Option.bind_eq_some_iff.mp H;obtain ⟨e0,r3,H⟩:=H;replace H:(some e0) = some r:=H;have A6:=A_ r3;clear r3;obtain rfl:=Option.some.inj H;go_enter Try.func101,Try.ntmps101;try go_wp2_with (first | ((with_reducible refine gate_dst (N:=1) rfl ?_);refine bx 1 #[.slice d3 b5.length d4,.int .i64 b4] 94 ?_;intro b8 hg w7 hbox hb;have b0:=A_ hbox;have h6:=gw hg HB;have m2:=h6;replace HB:=bB HB hb;clear hb hbox hg))
  replace b0:=kD b0;replace HB:=bD HB;refine start_ (n:=7) (S:=fun w'=>w'.cell? ⟨b8,0,none⟩ = some (.slice d3 b5.length d4) ∧ w'.cell? ⟨b8,1,none⟩ = some (.int .i64 b4)) (ds:=[]) (ba 7 0) (by kernel_rfl) rfl rfl ⟨cz b0 0,cz b0 1⟩ (fun hHeld=>?_);generalize w7.drew = w8 at b0 HB hHeld ⊢;refine pr 0 7 1 ?_;refine pr 3 10 9 ?_;refine tr 1 8 11 hHeld ?_;refine pr 2 9 15 ?_;refine tr 4 11 31 hHeld ?_;refine os 5 12 63 (fun K hK=>?_);refine gq Try.func93 #[.slice d3 b5.length d4] ?_;with_reducible refine (shares_total.calls k _ _ b5 e3 _ ?side1 ?side2 A2.out).mono ?_;(case side1=>exact cB e6 HB)
  (case side2=>exact e7.out)
  rintro e w' ⟨rfl,⟨nd,rfl⟩⟩;refine ⟨_,rfl,?_⟩;refine hz hK (fun hHeld=>?_);clear hK K;refine nq 12 ?_;refine pr 6 13 127 ?_;refine done_ (by kernel_rfl) ?_;try go_wp2
  (try (rw [drewN_self w8];generalize hq_:World.drewN w8 _ = w8;replace b0:Aside0 (w8.heap[b8]? = some (.cells #[.slice d3 b5.length d4,.int .i64 b4] 94 (0,0))):=⟨by rw [← hq_];exact b0.out⟩;replace HB:Aside0 (Below w.heap.size w w8):=⟨by rw [← hq_];exact (bl HB)⟩;clear hq_))
  replace b0:=kD b0;replace HB:=bD HB;refine start_ (n:=7) (S:=fun w'=>w'.cell? ⟨b8,0,none⟩ = some (.slice d3 b5.length d4) ∧ w'.cell? ⟨b8,1,none⟩ = some (.int .i64 b4)) (ds:=[]) (ba 7 0) (by kernel_rfl) rfl rfl ⟨cz b0 0,cz b0 1⟩ (fun hHeld=>?_);generalize w8.drew = w9 at b0 HB hHeld ⊢;refine pr 2 16 4 ?_;refine tr 0 14 5 hHeld ?_;refine tr 3 17 13 hHeld ?_;refine os 1 15 15 (fun K hK=>?_);refine gq Try.func123 #[.agg #[.slice d3 b5.length d4,.int .i64 b4]] ?_;with_reducible refine (shares_claims_halves.calls k _ _ b5 b4 d9 _ ?side1 ?side2 A4.out).mono ?_;(case side1=>exact cB e6 HB)
  (case side2=>exact e7.out)
  rintro e x7 ⟨r4,rfl,i0,hb⟩;refine ⟨_,rfl,?_⟩;have d7:=A_ (Kd.R_lower i0 (below_size (bl HB)));replace b0:=kB b0 hb;replace HB:=bB HB hb;(try clear hb)
  refine hz hK (fun hHeld=>?_);clear hK K;refine nq 15 ?_;refine os 4 18 31 (fun K hK=>?_);refine gq Try.func64 #[.int .i64 b4] ?_;with_reducible refine (shares_whole.calls b4 i3 i4 _ A5.out).mono ?_;rintro e x8 ⟨rfl,hb⟩;refine ⟨_,rfl,?_⟩;replace d7:=rB d7 hb;replace b0:=kB b0 hb;replace HB:=bB HB hb;(try clear hb)
  obtain ⟨p9,q0,n0⟩:=Kd.R_slice d7.out;(first | subst n0 | (injection n0 with l9 n1 m0;have n2:=l9.symm;have n3:=m0.symm;clear l9 n1 m0;subst n2;subst n3))
  refine hz hK (fun hHeld=>?_);clear hK K;refine nq 18 ?_;refine os 5 19 63 (fun K hK=>?_);refine gq Try.func122 #[.slice p9 d9.length q0,.agg #[.int .i64 i3,.int .i64 i4]] ?_;with_reducible refine (shares_equal.calls k _ _ d9 i3 i4 e0 _ ?side1 ?side2 A6.out).mono ?_;(case side1=>repeat (first | exact (Kd.R_reads' d7.out).2.2 | (with_reducible refine Kd.C_alloc ?_ _) | (with_reducible refine Kd.C_drewN ?_ _) | (with_reducible refine Kd.C_drew ?_)))
  (case side2=>exact (Kd.R_reads' d7.out).2.1)
  rintro e x9 ⟨r5,rfl,i0,hb⟩;refine ⟨_,rfl,?_⟩;have m3:=A_ (Kd.R_lower (Kd.R_new' i0 (Kd.R_lt d7.out)) (below_size HB.out));replace d7:=A_ (Kd.R_elder' d7.out (Kd.R_base i0) hb);replace b0:=kB b0 hb;replace HB:=bB HB hb;(try clear hb)
  refine hz hK (fun hHeld=>?_);clear hK K;refine nq 19 ?_;refine pr 6 2 127 ?_;refine done_ (by kernel_rfl) ?_;try go_wp2
  go_ret;exact ⟨_,rfl,by exact Kd.R_mono m3.out (fun _ hk=>trivial),bl HB⟩
 rw [if_neg c3] at H;have p8:=decide_eq_false c3;clear c3;replace H:=Option.bind_eq_some_iff.mp H;obtain ⟨d6,n4,H⟩:=H;replace H:((shares_whole.f b4).bind fun d1=>((shares_total.f k b5).bind fun d5=>((shares_frac.f k d5 2).bind fun c0=>((shares_minus.f k d1.1 d1.2 c0.1 c0.2).bind fun c1=>((shares_equal.f k d6 c1.1 c1.2).bind fun b6=>((shares_claims_halves.f k b5 b4).bind fun b1=>(shares_claims_piniles.l0 k b6 ([]:List (S23)) b1 (b1.length:Int) 0))))))) = some r:=H;have t2:=A_ n4;clear n4;replace H:=Option.bind_eq_some_iff.mp H;obtain ⟨⟨h8,h9⟩,A150,H⟩:=H;dsimp only at H;have t3:=A_ A150;clear A150;replace H:=Option.bind_eq_some_iff.mp H;obtain ⟨d5,n5,H⟩:=H;replace H:((shares_frac.f k d5 2).bind fun c0=>((shares_minus.f k h8 h9 c0.1 c0.2).bind fun c1=>((shares_equal.f k d6 c1.1 c1.2).bind fun b6=>((shares_claims_halves.f k b5 b4).bind fun b1=>(shares_claims_piniles.l0 k b6 ([]:List (S23)) b1 (b1.length:Int) 0))))) = some r:=H;have t4:=A_ n5;clear n5;replace H:=Option.bind_eq_some_iff.mp H;obtain ⟨⟨i5,i6⟩,A170,H⟩:=H;dsimp only at H;have t5:=A_ A170;clear A170;replace H:=Option.bind_eq_some_iff.mp H;obtain ⟨⟨i7,i8⟩,A180,H⟩:=H;dsimp only at H;have t6:=A_ A180;clear A180;replace H:=Option.bind_eq_some_iff.mp H;obtain ⟨b6,n6,H⟩:=H;replace H:((shares_claims_halves.f k b5 b4).bind fun b1=>(shares_claims_piniles.l0 k b6 ([]:List (S23)) b1 (b1.length:Int) 0)) = some r:=H;have t7:=A_ n6;clear n6;replace H:=Option.bind_eq_some_iff.mp H;obtain ⟨b1,n7,H⟩:=H;replace H:(shares_claims_piniles.l0 k b6 ([]:List (S23)) b1 (b1.length:Int) 0) = some r:=H;have o8:=A_ n7;clear n7;have H':=A_ H;clear H;go_enter Try.func101,Try.ntmps101;try go_wp2_with (first | ((with_reducible refine gate_dst (N:=1) rfl ?_);refine bx 1 #[.slice d3 b5.length d4,.int .i64 b4] 94 ?_;intro b8 hg t8 hbox hb;have b0:=A_ hbox;have h6:=gw hg HB;have m2:=h6;replace HB:=bB HB hb;clear hb hbox hg))
 replace b0:=kD b0;replace HB:=bD HB;refine start_ (n:=7) (S:=fun w'=>w'.cell? ⟨b8,0,none⟩ = some (.slice d3 b5.length d4) ∧ w'.cell? ⟨b8,1,none⟩ = some (.int .i64 b4)) (ds:=[]) (ba 7 0) (by kernel_rfl) rfl rfl ⟨cz b0 0,cz b0 1⟩ (fun hHeld=>?_);generalize t8.drew = m8 at b0 HB hHeld ⊢;refine pr 0 7 1 ?_;refine pr 3 10 9 ?_;refine tr 1 8 11 hHeld ?_;refine pr 2 9 15 ?_;refine tr 4 11 31 hHeld ?_;refine os 5 12 63 (fun K hK=>?_);refine gq Try.func93 #[.slice d3 b5.length d4] ?_;with_reducible refine (shares_total.calls k _ _ b5 e3 _ ?side1 ?side2 A2.out).mono ?_;(case side1=>exact cB e6 HB)
 (case side2=>exact e7.out)
 rintro e w' ⟨rfl,⟨nd,rfl⟩⟩;refine ⟨_,rfl,?_⟩;refine hz hK (fun hHeld=>?_);clear hK K;refine nq 12 ?_;refine pr 6 13 127 ?_;refine done_ (by kernel_rfl) ?_;try go_wp2
 (try (rw [drewN_self m8];generalize hq_:World.drewN m8 _ = m8;replace b0:Aside0 (m8.heap[b8]? = some (.cells #[.slice d3 b5.length d4,.int .i64 b4] 94 (0,0))):=⟨by rw [← hq_];exact b0.out⟩;replace HB:Aside0 (Below w.heap.size w m8):=⟨by rw [← hq_];exact (bl HB)⟩;clear hq_))
 replace b0:=kD b0;replace HB:=bD HB;refine st 12 (fun w'=>w'.cell? ⟨b8,0,none⟩ = some (.slice d3 b5.length d4) ∧ w'.cell? ⟨b8,1,none⟩ = some (.int .i64 b4)) [] shares_claims_piniles.tab3 shares_claims_piniles.bits3 (fun hHeld HT_ HW_=>?_);generalize m8.drew = y5 at b0 HB hHeld ⊢;refine pq 2 22 4 HT_ ?_;refine pq 5 25 36 HT_ ?_;refine tq 0 20 37 HT_ HW_ hHeld ?_;refine tq 3 23 45 HT_ HW_ hHeld ?_;refine tq 6 26 109 HT_ HW_ hHeld ?_;refine oq 1 21 111 HT_ (fun K hK=>?_);refine gq Try.func123 #[.agg #[.slice d3 b5.length d4,.int .i64 b4]] ?_;with_reducible refine (shares_claims_halves.calls k _ _ b5 b4 d6 _ ?side1 ?side2 t2.out).mono ?_;(case side1=>exact cB e6 HB)
 (case side2=>exact e7.out)
 rintro e y6 ⟨r6,rfl,i0,hb⟩;refine ⟨_,rfl,?_⟩;have b9:=A_ (Kd.R_lower i0 (below_size (bl HB)));replace b0:=kB b0 hb;replace HB:=bB HB hb;(try clear hb)
 refine hz hK (fun hHeld=>?_);clear hK K;refine nq 21 ?_;refine oq 4 24 127 HT_ (fun K hK=>?_);refine gq Try.func64 #[.int .i64 b4] ?_;with_reducible refine (shares_whole.calls b4 h8 h9 _ t3.out).mono ?_;rintro e y7 ⟨rfl,hb⟩;refine ⟨_,rfl,?_⟩;replace b9:=rB b9 hb;replace b0:=kB b0 hb;replace HB:=bB HB hb;(try clear hb)
 refine hz hK (fun hHeld=>?_);clear hK K;refine nq 24 ?_;refine oq 7 27 255 HT_ (fun K hK=>?_);refine gq Try.func93 #[.slice d3 b5.length d4] ?_;with_reducible refine (shares_total.calls k _ _ b5 d5 _ ?side1 ?side2 t4.out).mono ?_;(case side1=>exact cB e6 HB)
 (case side2=>exact e7.out)
 rintro e w' ⟨rfl,⟨nd,rfl⟩⟩;refine ⟨_,rfl,?_⟩;refine hz hK (fun hHeld=>?_);clear hK K;refine nq 27 ?_;refine oq 8 28 511 HT_ (fun K hK=>?_);refine gq Try.func117 #[.int .i64 d5,.int .i64 2] ?_;with_reducible refine (shares_frac.calls k d5 2 i5 i6 _ t5.out).mono ?_;rintro e y8 ⟨rfl,hb⟩;refine ⟨_,rfl,?_⟩;replace b9:=rB b9 hb;replace b0:=kB b0 hb;replace HB:=bB HB hb;(try clear hb)
 refine hz hK (fun hHeld=>?_);clear hK K;refine nq 28 ?_;refine oq 9 29 1023 HT_ (fun K hK=>?_);refine gq Try.func95 #[.agg #[.int .i64 h8,.int .i64 h9],.agg #[.int .i64 i5,.int .i64 i6]] ?_;with_reducible refine (shares_minus.calls k h8 h9 i5 i6 i7 i8 _ t6.out).mono ?_;rintro e y9 ⟨rfl,hb⟩;refine ⟨_,rfl,?_⟩;replace b9:=rB b9 hb;replace b0:=kB b0 hb;replace HB:=bB HB hb;(try clear hb)
 obtain ⟨q1,q2,n8⟩:=Kd.R_slice b9.out;(first | subst n8 | (injection n8 with l9 n1 m0;have n2:=l9.symm;have n3:=m0.symm;clear l9 n1 m0;subst n2;subst n3))
 refine hz hK (fun hHeld=>?_);clear hK K;refine nq 29 ?_;refine oq 10 30 2047 HT_ (fun K hK=>?_);refine gq Try.func122 #[.slice q1 d6.length q2,.agg #[.int .i64 i7,.int .i64 i8]] ?_;with_reducible refine (shares_equal.calls k _ _ d6 i7 i8 b6 _ ?side1 ?side2 t7.out).mono ?_;(case side1=>repeat (first | exact (Kd.R_reads' b9.out).2.2 | (with_reducible refine Kd.C_alloc ?_ _) | (with_reducible refine Kd.C_drewN ?_ _) | (with_reducible refine Kd.C_drew ?_)))
 (case side2=>exact (Kd.R_reads' b9.out).2.1)
 rintro e r7 ⟨e8,rfl,i0,hb⟩;refine ⟨_,rfl,?_⟩;have e9:=A_ (Kd.R_lower (Kd.R_new' i0 (Kd.R_lt b9.out)) (below_size HB.out));replace b9:=A_ (Kd.R_elder' b9.out (Kd.R_base i0) hb);replace b0:=kB b0 hb;replace HB:=bB HB hb;(try clear hb)
 refine hz hK (fun hHeld=>?_);clear hK K;refine nq 30 ?_;refine pq 11 3 4095 HT_ ?_;refine done_ (done_of HT_.out (by kernel_rfl)) ?_;have o9:r7.cell? ⟨b8,0,none⟩ = some (.slice d3 b5.length d4):=cz b0 0;have p0:r7.cell? ⟨b8,1,none⟩ = some (.int .i64 b4):=cz b0 1;have p1:=blk_frozen b0.out 0;have p2:=blk_frozen b0.out 1;try go_wp2_with (first | ((with_reducible refine gate_callee (f:=123) rfl ?_);refine gL (some 32) Try.func123 #[.agg #[.slice d3 b5.length d4,.int .i64 b4]] ?_;(with_reducible refine (shares_claims_halves.calls k _ _ b5 b4 b1 _ ?side1 ?side2 o8.out).mono ?_);(case side1=>exact cB e6 HB);(case side2=>exact e7.out);rintro e z0 ⟨r8,rfl,i0,hb⟩;refine ⟨_,rfl,?_⟩;have i9:=A_ (Kd.R_lower (Kd.R_new' (Kd.R_new' i0 (Kd.R_lt b9.out)) (Kd.R_lt e9.out)) (below_size HB.out));replace b9:=A_ (Kd.R_elder' b9.out (Kd.R_base i0) hb);replace e9:=A_ (Kd.R_elder' e9.out (Kd.R_base i0) hb);replace b0:=kB b0 hb;replace HB:=bB HB hb;(try clear hb);obtain ⟨m4,h0,q3⟩:=Kd.R_slice i9.out;subst q3))
 go_loopg [4,34] k (fun kq v4 t9 w'=>∃ (i1:List (S23)) (b2:Int),t9 = .int .i64 b2 ∧ Aside0 (shares_claims_piniles.l0 kq b6 i1 b1 (b1.length:Int) b2 = some r) ∧ Aside0 (kq ≤ k) ∧ Aside0 (Kd.R k23 23 w' w.heap.size (fun k_=>some k_ ≠ (v4:Value).ownBlock ∧ some k_ ≠ ((.slice m4 b1.length h0):Value).ownBlock) e8 b6) ∧ Aside0 (Kd.R k23 23 w' w.heap.size (fun k_=>some k_ ≠ (e8:Value).ownBlock ∧ some k_ ≠ ((.slice m4 b1.length h0):Value).ownBlock) v4 i1) ∧ Aside0 (Kd.R k23 23 w' w.heap.size (fun k_=>some k_ ≠ (e8:Value).ownBlock ∧ some k_ ≠ (v4:Value).ownBlock) (.slice m4 b1.length h0) b1) ∧ Aside0 (w'.heap[b8]? = some (.cells #[(.slice d3 b5.length d4),.int .i64 b4] 94 (0,0))) ∧ Aside0 (Below w.heap.size w w'))
 case atStart=>exact ⟨(([]:List (S23))),(0),rfl,H',⟨Nat.le_refl _⟩,⟨by exact Kd.R_mono e9.out (fun _ hk=>⟨(by simp [Value.ownBlock]),hk.2⟩)⟩,⟨by first | exact Kd.R_nil _ _ _ _ _ | exact Kd.N_nil _ _ _ _ _ | exact Kd.V_nil _ _ _ _ _ | exact Kd.Q_nil _ _ _ _ _ | exact Kd.S_nil _ _ _ _ _⟩,⟨by exact Kd.R_mono i9.out (fun _ hk=>⟨hk.2,(by simp [Value.ownBlock])⟩)⟩,⟨by exact b0.out⟩,⟨bl HB⟩⟩
 case round =>
  clear H';obtain ⟨i1,b2,rfl,HA,r9,e1,e2,d2,b0,HB⟩:=hrel
  cases gk with
  | zero=>exact absurd HA.out (by simp [shares_claims_piniles.l0])
  | succ k1 =>
   have H:=HA.out;clear HA;simp only [shares_claims_piniles.l0] at H;by_cases m9:b2 < (b1.length:Int)
   case neg =>
    rw [if_neg m9] at H;have n9:=decide_eq_false m9;clear m9;obtain rfl:=Option.some.inj H;go_wp2;go_ret;exact ⟨_,rfl,by exact Kd.R_mono e2.out (fun _ hk=>trivial),bl HB⟩
   rw [if_pos m9] at H;have n9:=decide_eq_true m9;clear m9;replace H:=gd H;obtain ⟨s0,H⟩:=H;have s1:=decide_eq_true s0;clear s0;replace H:=gd H;obtain ⟨s2,H⟩:=H;have s3:=decide_eq_true s2;clear s2;replace H:=gd H;obtain ⟨s4,H⟩:=H;have s5:=decide_eq_true s4;clear s4;replace H:=Option.bind_eq_some_iff.mp H;obtain ⟨⟨h1,h2⟩,A370,H⟩:=H;dsimp only at H;have x0:=A_ A370;clear A370;replace H:=gd H;obtain ⟨s6,H⟩:=H;have o0:=A_ s6;clear s6;obtain ⟨m1,h7⟩:∃ y_:List (S23),y_ = (i1 ++ [(⟨h1,h2⟩:S23)]):=⟨_,rfl⟩
   replace H:(shares_claims_piniles.l0 k1 b6 m1 b1 (b1.length:Int) (wrap64 (b2 + 1))) = some r:=by rw [h7];exact H
   have m5:=A_ h7;clear h7;have H':=A_ H;clear H;have j5:0 ≤ (b2:Int):=of_decide_eq_true (by assumption);have j7:b2 < (b1.length:Int):=of_decide_eq_true (by assumption);obtain ⟨e4,o1,o2,o3⟩:=at_T23 (Kd.R_reads' d2.out).2.2 b2 j5 j7
   cases o1;replace j5:=eq_true j5;replace j7:=eq_true j7;try go_wp2_with (first | ((with_reducible refine gate_dst (N:=6) rfl ?_);refine bx 6 #[.int .i64 0,.int .i64 0] 23 ?_;intro b3 hg l6 hbox hb;have b7:=A_ hbox;have m6:=gw hg HB;have q4:=m6;have d8:=nl hg b0;have h3:=ng hg b0;replace e1:=A_ (Kd.R_below (Kd.R_elderB e1.out b3 (Nat.le_of_eq hg.symm)) hb);replace e2:=A_ (Kd.R_below (Kd.R_elderB e2.out b3 (Nat.le_of_eq hg.symm)) hb);replace d2:=A_ (Kd.R_below (Kd.R_elderB d2.out b3 (Nat.le_of_eq hg.symm)) hb);replace b0:=kB b0 hb;replace HB:=bB HB hb;clear hb hbox hg;have s7:=h3.out;have s8:=d8.out;have p3:l6.cell? ⟨b3,0,none⟩ = some (.int .i64 0):=cz b7 0;have p4:l6.cell? ⟨b3,1,none⟩ = some (.int .i64 0):=cz b7 1;have p5:=blk_frozen b7.out 0;have p6:=blk_frozen b7.out 1))
   have q5:Aside0 (Kd.R k23 23 ((l6.setCell ⟨b3,0,none⟩ (.int .i64 ((rd_T23 b1 b2).f0))).setCell ⟨b3,1,none⟩ (.int .i64 ((rd_T23 b1 b2).f1))) w.heap.size (fun k_=>some k_ ≠ (u4:Value).ownBlock ∧ some k_ ≠ (.slice (some e4) b1.length h0:Value).ownBlock ∧ k_ ≠ b3) e8 b6):=⟨by exact Kd.R_mono (Kd.R_far (p:=⟨b3,1,none⟩) (Kd.R_far (p:=⟨b3,0,none⟩) (Kd.R_mono e1.out (fun k_ hk=>(⟨hk,hk.2⟩:_ ∧ k_ ≠ b3))) (fun _ hk=>hk.2) (.int .i64 ((rd_T23 b1 b2).f0))) (fun _ hk=>hk.2) (.int .i64 ((rd_T23 b1 b2).f1))) (fun _ hk=>⟨hk.1.1.1,⟨hk.1.1.2,hk.1.2⟩⟩)⟩
   have q6:Aside0 (Kd.R k23 23 ((l6.setCell ⟨b3,0,none⟩ (.int .i64 ((rd_T23 b1 b2).f0))).setCell ⟨b3,1,none⟩ (.int .i64 ((rd_T23 b1 b2).f1))) w.heap.size (fun k_=>some k_ ≠ (e8:Value).ownBlock ∧ some k_ ≠ (.slice (some e4) b1.length h0:Value).ownBlock ∧ k_ ≠ b3) u4 i1):=⟨by exact Kd.R_mono (Kd.R_far (p:=⟨b3,1,none⟩) (Kd.R_far (p:=⟨b3,0,none⟩) (Kd.R_mono e2.out (fun k_ hk=>(⟨hk,hk.2⟩:_ ∧ k_ ≠ b3))) (fun _ hk=>hk.2) (.int .i64 ((rd_T23 b1 b2).f0))) (fun _ hk=>hk.2) (.int .i64 ((rd_T23 b1 b2).f1))) (fun _ hk=>⟨hk.1.1.1,⟨hk.1.1.2,hk.1.2⟩⟩)⟩
   have q7:Aside0 (Kd.R k23 23 ((l6.setCell ⟨b3,0,none⟩ (.int .i64 ((rd_T23 b1 b2).f0))).setCell ⟨b3,1,none⟩ (.int .i64 ((rd_T23 b1 b2).f1))) w.heap.size (fun k_=>some k_ ≠ (e8:Value).ownBlock ∧ some k_ ≠ (u4:Value).ownBlock ∧ k_ ≠ b3) (.slice (some e4) b1.length h0) b1):=⟨by exact Kd.R_mono (Kd.R_far (p:=⟨b3,1,none⟩) (Kd.R_far (p:=⟨b3,0,none⟩) (Kd.R_mono d2.out (fun k_ hk=>(⟨hk,hk.2⟩:_ ∧ k_ ≠ b3))) (fun _ hk=>hk.2) (.int .i64 ((rd_T23 b1 b2).f0))) (fun _ hk=>hk.2) (.int .i64 ((rd_T23 b1 b2).f1))) (fun _ hk=>⟨hk.1.1.1,⟨hk.1.1.2,hk.1.2⟩⟩)⟩
   have q8:Aside0 (((l6.setCell ⟨b3,0,none⟩ (.int .i64 ((rd_T23 b1 b2).f0))).setCell ⟨b3,1,none⟩ (.int .i64 ((rd_T23 b1 b2).f1))).heap[b8]? = some (.cells #[.slice d3 b5.length d4,.int .i64 b4] 94 (0,0))):=⟨by refine blk_far ?_ d8.out _;refine blk_far ?_ d8.out _;exact b0.out⟩
   have q9:Aside0 (((l6.setCell ⟨b3,0,none⟩ (.int .i64 ((rd_T23 b1 b2).f0))).setCell ⟨b3,1,none⟩ (.int .i64 ((rd_T23 b1 b2).f1))).heap[b3]? = some (.cells #[.int .i64 ((rd_T23 b1 b2).f0),.int .i64 ((rd_T23 b1 b2).f1)] 23 (0,0))):=⟨by refine blk_put (cs:=#[.int .i64 ((rd_T23 b1 b2).f0),.int .i64 0]) ?_ 1 _ rfl;refine blk_put (cs:=#[.int .i64 0,.int .i64 0]) ?_ 0 _ rfl;exact b7.out⟩
   have r0:Aside0 (Below w.heap.size w ((l6.setCell ⟨b3,0,none⟩ (.int .i64 ((rd_T23 b1 b2).f0))).setCell ⟨b3,1,none⟩ (.int .i64 ((rd_T23 b1 b2).f1)))):=⟨bl HB⟩
   generalize ((l6.setCell ⟨b3,0,none⟩ (.int .i64 ((rd_T23 b1 b2).f0))).setCell ⟨b3,1,none⟩ (.int .i64 ((rd_T23 b1 b2).f1))) = x1 at q5 q6 q7 q8 q9 r0 ⊢;have e1:=q5;have e2:=q6;have d2:=q7;have b0:=q8;have b7:=q9;have HB:=r0;clear q5 q6 q7 q8 q9 r0;replace e1:=rD e1;replace e2:=rD e2;replace d2:=rD d2;replace b0:=kD b0;replace b7:=kD b7;replace HB:=bD HB;obtain ⟨x2,o4,o5⟩:=Kd.R_slice e1.out;(first | subst o5 | (injection o5 with l9 n1 m0;have n2:=l9.symm;have n3:=m0.symm;clear l9 n1 m0;subst n2;subst n3))
   have j8:0 ≤ (b2:Int):=of_decide_eq_true (by assumption);have j9:b2 < (b6.length:Int):=of_decide_eq_true (by assumption);obtain ⟨e5,o6,h4,h5⟩:=at_T23 (Kd.R_reads' e1.out).2.2 b2 j8 j9
   cases o6;replace j8:=eq_true j8;replace j9:=eq_true j9;refine start_ (n:=10) (S:=fun w'=>w'.cell? ⟨b3,0,none⟩ = some (.int .i64 ((rd_T23 b1 b2).f0)) ∧ w'.cell? ⟨b3,1,none⟩ = some (.int .i64 ((rd_T23 b1 b2).f1)) ∧ w'.cell? (e5.add ((b2).toNat * 2)) = some (.int .i64 ((rd_T23 b6 b2).f0)) ∧ w'.cell? ⟨(e5.add ((b2).toNat * 2)).block,(e5.add ((b2).toNat * 2)).off + 1,none⟩ = some (.int .i64 ((rd_T23 b6 b2).f1))) (ds:=[7,8]) (ba 10 0) (by kernel_rfl) rfl rfl ⟨cz b7 0,cz b7 1,h4,h5⟩ (fun hHeld=>?_);refine with_tabW shares_claims_piniles.tab8 shares_claims_piniles.bits8 (fun HT_ HW_=>?_);generalize x1.drew = z1 at e1 e2 d2 b0 b7 HB h4 h5 hHeld ⊢;refine pq 0 39 1 HT_ ?_;refine pq 2 41 5 HT_ ?_;refine pq 3 42 13 HT_ ?_;refine pq 4 43 29 HT_ ?_;refine tq 1 40 31 HT_ HW_ hHeld ?_;refine tq 5 44 63 HT_ HW_ hHeld ?_;refine oq 6 45 127 HT_ (fun K hK=>?_);refine gq Try.func88 #[.agg #[.int .i64 ((rd_T23 b1 b2).f0),.int .i64 ((rd_T23 b1 b2).f1)],.agg #[.int .i64 ((rd_T23 b6 b2).f0),.int .i64 ((rd_T23 b6 b2).f1)]] ?_;with_reducible refine (shares_add.calls k1 ((rd_T23 b1 b2).f0) ((rd_T23 b1 b2).f1) ((rd_T23 b6 b2).f0) ((rd_T23 b6 b2).f1) h1 h2 _ x0.out).mono ?_;rintro e z2 ⟨rfl,hb⟩;have x5:=(hb.cell (World.block_lt_of_cell? _ _ (hHeld.2.2.1))).trans (hHeld.2.2.1);have x6:=(hb.cell (World.block_lt_of_cell? _ _ (hHeld.2.2.2))).trans (hHeld.2.2.2);refine ⟨_,rfl,?_⟩;replace e1:=rB e1 hb;replace e2:=rB e2 hb;replace d2:=rB d2 hb;replace b0:=kB b0 hb;replace b7:=kB b7 hb;replace HB:=bB HB hb;(try clear hb)
   refine hz hK (fun hHeld=>?_);clear hK K;refine nq 45 ?_;refine last_ (i:=7) (N:=some 46) (ba 10 255) rfl rfl (one_of HT_.out (by kernel_rfl)) (by decide) (fun K hK=>?_);refine value_ (w1:=?_) (v:=?_) (by rfl) rfl ?_ ?_;rotate_left 2
   ·go_simp;constructor
    ·rfl
    rfl
   refine hK.out _ _ ?_;clear hK K;refine nq 46 ?_;refine last_ (i:=8) (N:=some 47) (ba 10 511) rfl rfl (one_of HT_.out (by kernel_rfl)) (by decide) (fun K hK=>?_);refine Kd.R_append_step k23 (w0:=w) w.heap.size (by rfl) (.tmp 39) (.tmp 46) 35 23 (.agg #[(.int .i64 0),(.int .i64 0)]) 16 rfl Try.underlying35 info23 rfl (by decide) (by omega) u4 i1 (⟨h1,h2⟩:S23) [.int .i64 h1,.int .i64 h2] (fun k_=>some k_ ≠ (.slice (some e5) b6.length o4:Value).ownBlock ∧ some k_ ≠ (.slice (some e4) b1.length h0:Value).ownBlock ∧ k_ ≠ b3) (fun _=>False) rfl rfl ?aP (fun _ hk=>hk.elim) ?aF ?aO ?aB ?aS ?aL ?_;(case aP=>exact k23_mkM _ _ _ (⟨h1,h2⟩:S23))
   (case aB=>exact HB.out)
   (case aF=>exact (fun k_ hk=>⟨Kd.fresh' (Kd.R_lt e1.out) k_ hk,Kd.fresh' (Kd.R_lt d2.out) k_ hk,Kd.freshB (g:=b3) (o:=.cells #[.int .i64 ((rd_T23 b1 b2).f0),.int .i64 ((rd_T23 b1 b2).f1)] 23 (0,0)) b7.out k_ hk⟩))
   (case aO=>exact e2.out)
   (case aS=>exact (below_size HB.out))
   (case aL=>have:=o0.out;omega)
   intro s9 z3 ho hb hg hat;rw [← m5.out] at ho;have m7:=A_ ho;replace e1:=A_ (Kd.R_after (ok:=(fun k_=>some k_ ≠ (.slice (some e4) b1.length h0:Value).ownBlock ∧ k_ ≠ b3)) (by exact Kd.R_mono e1.out (fun _ hk=>⟨⟨hk.2.1,hk.2.2⟩,hk.1⟩)) hg hat);replace d2:=A_ (Kd.R_after (ok:=(fun k_=>some k_ ≠ (.slice (some e5) b6.length o4:Value).ownBlock ∧ k_ ≠ b3)) (by exact Kd.R_mono d2.out (fun _ hk=>⟨⟨hk.1,hk.2.2⟩,hk.2.1⟩)) hg hat);replace b0:=A_ (blk_grown b0.out hg (Kd.R_ne e2.out b0.out (by decide)));replace b7:=A_ (blk_grown b7.out hg (Kd.R_away e2.out (fun _ hk=>hk.2.2)));replace HB:=A_ hb;clear e2 ho hb hg hat;refine hK.out _ _ ?_;clear hK K;refine nq 47 ?_;refine pq 9 4 1023 HT_ ?_;refine done_ (done_of HT_.out (by kernel_rfl)) ?_;try go_wp2
   go_roundg k1
   case measure=>have:=r9.out;omega
   case rel=>exact ⟨(m1),(wrap64 (b2 + 1)),rfl,H',⟨by have:=r9.out;omega⟩,⟨by exact Kd.R_mono e1.out (fun _ hk=>⟨hk.2,hk.1.1⟩)⟩,⟨by exact Kd.R_mono m7.out (fun _ hk=>⟨hk.1,hk.2.1⟩)⟩,⟨by exact Kd.R_mono d2.out (fun _ hk=>⟨hk.1.1,hk.2⟩)⟩,⟨by exact b0.out⟩,⟨bl HB⟩⟩
end Go.Proofs.Ytjohcjfmlhihbaa.G
namespace Go.Proofs.Ytjohcjfmlhihbaa.G
open Go Go.RowKit Go.Shelf Go.Proofs.Ytjohcjfmlhihbaa.H Go.Proofs.YtjohcjfmlhihbaaW.PrintWords
attribute [local go_sem] Oper.semAt_some wide_fn
def boundF (f:Nat) (A:Option Addr) (n c:Nat) (e:Int):Value:=.func (.func f) #[.agg #[.slice A n c,.int .i64 e]] #[]
def rulesM (A:Option Addr) (n c:Nat) (e:Int):Array MapEntry :=
 #[⟨.int .i64 0,boundF 97 A n c e,0⟩,⟨.int .i64 1,boundF 98 A n c e,1⟩,⟨.int .i64 2,boundF 99 A n c e,2⟩,⟨.int .i64 3,boundF 100 A n c e,3⟩,⟨.int .i64 4,boundF 101 A n c e,4⟩]
theorem gate_none {P:Program} {ops:Array Oper} {rest:List Oper} {o:Oper} {a:Act} {Q:Exit → Act → World → Prop} {w:World} (_h:o.dst = none) (h:wpList P ops Q (o :: rest) a w):wpList P ops Q (o :: rest) a w:=h
set_option maxHeartbeats 8000000 in
set_option maxRecDepth 100000 in
theorem rules_any (A:Option Addr) (n c:Nat) (e0:Int) (w:World) :
  Calls Try.prog 68 #[.agg #[.slice A n c,.int .i64 e0]] w fun e w'=>∃ b,e = .returned (.map (some b)) ∧ w'.heap[b]? = some (.map (rulesM A n c e0) 5) ∧ w.heap.size ≤ b ∧ Below w.heap.size w w':=by
 have hu94:=Try.underlying94
 have HB:=Aside0.mk (Below.refl w.heap.size w)
 go_enter Try.func68,Try.ntmps68
 go_wp2_with (first | ((with_reducible refine gate_dst (N:=1) rfl ?_);refine box_event ?hg (N:=1) ?hd (cs:=#[.slice A n c,.int .i64 e0]) (t:=94) ?hr ?_;(case hd=>rfl);(case hg=>rfl);(case hr=>first | (go_simp;done) | (go_simp;rfl));intro gbC hg w2 hbox hb;have n0_:=Aside0.mk (below_step HB.out hb);have n1_:=Aside0.mk hbox;clear HB;have HB:=n0_;have BKC:=n1_;clear n0_ n1_;clear hb hbox hg) | ((with_reducible refine gate_dst (N:=3) rfl ?_);refine map_event rfl 104 rfl ?_;intro gbM hg w3 hmap hb;have n0_:=Aside0.mk (below_step HB.out hb);have n1_:=Aside0.mk hmap;have n2_:=Aside0.mk (blk_below BKC.out hb);have n3_:=Aside0.mk (by rw [hg];exact HB.out.size:w.heap.size ≤ gbM);have n4_:=Aside0.mk (by rw [hg];exact Nat.ne_of_lt (blk_lt BKC.out):gbC ≠ gbM);clear HB BKC;have HB:=n0_;have HM:=n1_;have BKC:=n2_;have GEM:=n3_;have NEM:=n4_;clear n0_ n1_ n2_ n3_ n4_;clear hb hmap hg;have hczC:=(blk_cell BKC.out 0).trans rfl;have hczC1:=(blk_cell BKC.out 1).trans rfl) | ((with_reducible refine gate_none rfl ?_);refine insert_new _ rfl (.tmp 3) (.const (.int .i64 0)) (.tmp 5) 104 3 102 rfl Try.underlying104 Try.underlying3 gbM #[] 0 rfl HM.out 0 (boundF 97 A n c e0) rfl rfl (by rfl) ?_;intro w4 hm hg;have n0_:=Aside0.mk (HB.out.grown hg HB.out.size (fun k e=>by injection e with e;rw [← e];exact GEM.out));have n1_:=Aside0.mk (show w4.heap[gbM]? = some (.map #[⟨.int .i64 0,boundF 97 A n c e0,0⟩] 1) from hm);have n2_:=Aside0.mk (blk_grown BKC.out hg (fun e=>NEM.out (by injection e)));clear HB HM BKC;(try clear hczC hczC1);have HB:=n0_;have HM:=n1_;have BKC:=n2_;clear n0_ n1_ n2_;clear hm hg;have hczC:=(blk_cell BKC.out 0).trans rfl;have hczC1:=(blk_cell BKC.out 1).trans rfl) | ((with_reducible refine gate_none rfl ?_);refine insert_new _ rfl (.tmp 3) (.const (.int .i64 1)) (.tmp 7) 104 3 102 rfl Try.underlying104 Try.underlying3 gbM #[⟨.int .i64 0,boundF 97 A n c e0,0⟩] 1 rfl HM.out 1 (boundF 98 A n c e0) rfl rfl (by rfl) ?_;intro w4 hm hg;have n0_:=Aside0.mk (HB.out.grown hg HB.out.size (fun k e=>by injection e with e;rw [← e];exact GEM.out));have n1_:=Aside0.mk (show w4.heap[gbM]? = some (.map #[⟨.int .i64 0,boundF 97 A n c e0,0⟩,⟨.int .i64 1,boundF 98 A n c e0,1⟩] 2) from hm);have n2_:=Aside0.mk (blk_grown BKC.out hg (fun e=>NEM.out (by injection e)));clear HB HM BKC;(try clear hczC hczC1);have HB:=n0_;have HM:=n1_;have BKC:=n2_;clear n0_ n1_ n2_;clear hm hg;have hczC:=(blk_cell BKC.out 0).trans rfl;have hczC1:=(blk_cell BKC.out 1).trans rfl) | ((with_reducible refine gate_none rfl ?_);refine insert_new _ rfl (.tmp 3) (.const (.int .i64 2)) (.tmp 9) 104 3 102 rfl Try.underlying104 Try.underlying3 gbM #[⟨.int .i64 0,boundF 97 A n c e0,0⟩,⟨.int .i64 1,boundF 98 A n c e0,1⟩] 2 rfl HM.out 2 (boundF 99 A n c e0) rfl rfl (by rfl) ?_;intro w4 hm hg;have n0_:=Aside0.mk (HB.out.grown hg HB.out.size (fun k e=>by injection e with e;rw [← e];exact GEM.out));have n1_:=Aside0.mk (show w4.heap[gbM]? = some (.map #[⟨.int .i64 0,boundF 97 A n c e0,0⟩,⟨.int .i64 1,boundF 98 A n c e0,1⟩,⟨.int .i64 2,boundF 99 A n c e0,2⟩] 3) from hm);have n2_:=Aside0.mk (blk_grown BKC.out hg (fun e=>NEM.out (by injection e)));clear HB HM BKC;(try clear hczC hczC1);have HB:=n0_;have HM:=n1_;have BKC:=n2_;clear n0_ n1_ n2_;clear hm hg;have hczC:=(blk_cell BKC.out 0).trans rfl;have hczC1:=(blk_cell BKC.out 1).trans rfl) | ((with_reducible refine gate_none rfl ?_);refine insert_new _ rfl (.tmp 3) (.const (.int .i64 3)) (.tmp 11) 104 3 102 rfl Try.underlying104 Try.underlying3 gbM #[⟨.int .i64 0,boundF 97 A n c e0,0⟩,⟨.int .i64 1,boundF 98 A n c e0,1⟩,⟨.int .i64 2,boundF 99 A n c e0,2⟩] 3 rfl HM.out 3 (boundF 100 A n c e0) rfl rfl (by rfl) ?_;intro w4 hm hg;have n0_:=Aside0.mk (HB.out.grown hg HB.out.size (fun k e=>by injection e with e;rw [← e];exact GEM.out));have n1_:=Aside0.mk (show w4.heap[gbM]? = some (.map #[⟨.int .i64 0,boundF 97 A n c e0,0⟩,⟨.int .i64 1,boundF 98 A n c e0,1⟩,⟨.int .i64 2,boundF 99 A n c e0,2⟩,⟨.int .i64 3,boundF 100 A n c e0,3⟩] 4) from hm);have n2_:=Aside0.mk (blk_grown BKC.out hg (fun e=>NEM.out (by injection e)));clear HB HM BKC;(try clear hczC hczC1);have HB:=n0_;have HM:=n1_;have BKC:=n2_;clear n0_ n1_ n2_;clear hm hg;have hczC:=(blk_cell BKC.out 0).trans rfl;have hczC1:=(blk_cell BKC.out 1).trans rfl) | ((with_reducible refine gate_none rfl ?_);refine insert_new _ rfl (.tmp 3) (.const (.int .i64 4)) (.tmp 13) 104 3 102 rfl Try.underlying104 Try.underlying3 gbM #[⟨.int .i64 0,boundF 97 A n c e0,0⟩,⟨.int .i64 1,boundF 98 A n c e0,1⟩,⟨.int .i64 2,boundF 99 A n c e0,2⟩,⟨.int .i64 3,boundF 100 A n c e0,3⟩] 4 rfl HM.out 4 (boundF 101 A n c e0) rfl rfl (by rfl) ?_;intro w4 hm hg;have n0_:=Aside0.mk (HB.out.grown hg HB.out.size (fun k e=>by injection e with e;rw [← e];exact GEM.out));have n1_:=Aside0.mk (show w4.heap[gbM]? = some (.map #[⟨.int .i64 0,boundF 97 A n c e0,0⟩,⟨.int .i64 1,boundF 98 A n c e0,1⟩,⟨.int .i64 2,boundF 99 A n c e0,2⟩,⟨.int .i64 3,boundF 100 A n c e0,3⟩,⟨.int .i64 4,boundF 101 A n c e0,4⟩] 5) from hm);have n2_:=Aside0.mk (blk_grown BKC.out hg (fun e=>NEM.out (by injection e)));clear HB HM BKC;(try clear hczC hczC1);have HB:=n0_;have HM:=n1_;have BKC:=n2_;clear n0_ n1_ n2_;clear hm hg;have hczC:=(blk_cell BKC.out 0).trans rfl;have hczC1:=(blk_cell BKC.out 1).trans rfl))
 go_ret
 exact ⟨gbM,rfl,HM.out,GEM.out,HB.out⟩
def shares_Award.f (k:Nat) (a0:Int) (l1:List Int) (a2:Int):Option ((List (S23)) × (Int)) :=
 (newClaimsR.f k l1 a2).bind fun ok=>if ok = true then
  (if a0 = 0 then (shares_claims_proportional.f k l1 a2).bind fun x=>some (x,0)
  else if a0 = 1 then (shares_claims_awards.f k l1 a2).bind fun x=>some (x,0)
  else if a0 = 2 then (shares_claims_losses.f k l1 a2).bind fun x=>some (x,0)
  else if a0 = 3 then (shares_claims_talmud.f k l1 a2).bind fun x=>some (x,0)
  else if a0 = 4 then (shares_claims_piniles.f k l1 a2).bind fun x=>some (x,0)
  else some ([],2)) else some ([],2)
theorem shares_Award.mono:∀ a0 l1 a2 k,LeO (shares_Award.f k a0 l1 a2) (shares_Award.f (k + 1) a0 l1 a2):=by
 intro a0 l1 a2 k
 unfold shares_Award.f
 refine LeO.bind (newClaimsR.mono _ _ _) (fun _=>LeO.ite ?_ (LeO.refl _))
 refine LeO.ite (LeO.bind (shares_claims_proportional.mono _ _ _) (fun _=>LeO.refl _)) ?_
 refine LeO.ite (LeO.bind (shares_claims_awards.mono _ _ _) (fun _=>LeO.refl _)) ?_
 refine LeO.ite (LeO.bind (shares_claims_losses.mono _ _ _) (fun _=>LeO.refl _)) ?_
 refine LeO.ite (LeO.bind (shares_claims_talmud.mono _ _ _) (fun _=>LeO.refl _)) ?_
 exact LeO.ite (LeO.bind (shares_claims_piniles.mono _ _ _) (fun _=>LeO.refl _)) (LeO.refl _)
set_option maxHeartbeats 8000000 in
set_option maxRecDepth 100000 in
theorem shares_Award.calls (k:Nat) (a0:Int) (A1:Option Addr) (c1:Nat) (l1:List Int) (a2:Int) (r1:List (S23)) (r2:Int) (w:World) (hr1:Kd.C (Kd.int .i64) w A1 l1.length l1) (hc1:l1.length ≤ c1) (h:shares_Award.f k a0 l1 a2 = some (r1,r2)) :
  Calls Try.prog 26 #[.int .i64 a0,.slice A1 l1.length c1,.int .i64 a2] w fun e w'=>∃ v0_:Value,e = .returned (.tuple #[v0_,.int .i64 r2]) ∧ Kd.R k23 23 w' w.heap.size (fun _=>True) v0_ r1 ∧ Below w.heap.size w w':=by
 have hu94:=Try.underlying94
 have HR1:=Aside0.mk hr1
 have HC1:=Aside0.mk hc1
 clear hr1 hc1
 have HB:=Aside0.mk (Below.refl w.heap.size w)
 unfold shares_Award.f at h
 obtain ⟨ok,h1,h⟩:=Option.bind_eq_some_iff.1 h
 have A1_:=Aside0.mk h1
 have H:=Aside0.mk h
 clear h h1
 go_enter Try.func26,Try.ntmps26
 go_wp2_with fail
 refine (newClaimsR.calls k A1 c1 l1 a2 ok _ HR1.out HC1.out A1_.out).mono ?_
 rintro e w1 ⟨rfl,hb⟩
 have n0_:=Aside0.mk (below_step HB.out hb)
 clear HB hb
 have HB:=n0_
 clear n0_
 go_wp2_with (first | ((with_reducible refine gate_dst (N:=8) rfl ?_);refine box_event ?hg (N:=8) ?hd (cs:=#[.slice none 0 0,.int .i64 0]) (t:=94) ?hr ?_;(case hd=>rfl);(case hg=>rfl);(case hr=>first | (go_simp;done) | (go_simp;rfl));intro gbC hg w2 hbox hb;have n0_:=Aside0.mk (below_step HB.out hb);have n1_:=Aside0.mk hbox;have n2_:=Aside0.mk (by rw [hg];exact HB.out.size:w.heap.size ≤ gbC);clear HB;have HB:=n0_;have BKC:=n1_;have GEC:=n2_;clear n0_ n1_ n2_;clear hb hbox hg;have hczC:=(blk_cell BKC.out 0).trans rfl;have hczC1:=(blk_cell BKC.out 1).trans rfl;have hfzC:=blk_frozen BKC.out 0;have hfzC1:=blk_frozen BKC.out 1))
 refine (rules_any A1 l1.length c1 a2 _).mono ?_
 rintro e w3 ⟨b,rfl,hm,hge,hb⟩
 have n0_:=Aside0.mk (below_step (below_set (below_set HB.out GEC.out) GEC.out) hb)
 have HM:=Aside0.mk hm
 clear HB hb hm hge
 (try clear hczC);(try clear hczC1);(try clear hfzC);(try clear hfzC1);(try clear BKC);(try clear GEC)
 have HB:=n0_
 clear n0_
 by_cases hk:a0 = 0 ∨ a0 = 1 ∨ a0 = 2 ∨ a0 = 3 ∨ a0 = 4
 case neg =>
  have hn:∀ j:Int,(j = 0 ∨ j = 1 ∨ j = 2 ∨ j = 3 ∨ j = 4) → (a0 == j) = false:=fun j hj=>by
   rw [beq_eq_false_iff_ne]
   rintro rfl
   exact hk hj
  have hl:=run_look_no w3 Try.underlying104 Try.underlying3 (z:=.nilFunc) (by kernel_rfl) HM.out (j:=a0) (by
   show Instr.findNow (.int .i64) (.int .i64 a0) [_,_,_,_,_] 0 = _
   simp only [Instr.findNow,Instr.sameNow,if_true,hn 0 (by decide),hn 1 (by decide),hn 2 (by decide),hn 3 (by decide),hn 4 (by decide)])
  have h:=H.out
  rw [if_neg (fun e=>hk (.inl e)),if_neg (fun e=>hk (.inr (.inl e))),if_neg (fun e=>hk (.inr (.inr (.inl e)))),if_neg (fun e=>hk (.inr (.inr (.inr (.inl e))))),if_neg (fun e=>hk (.inr (.inr (.inr (.inr e))))),ite_self] at h
  simp only [Option.some.injEq,Prod.mk.injEq] at h
  obtain ⟨rfl,rfl⟩:=h
  clear hn hk H
  cases ok
  all_goals
   go_wp2_with fail
   go_ret2
   exact ⟨_,rfl,Kd.R_nil _ _ _ _ _,HB.out⟩
 rcases hk with rfl | rfl | rfl | rfl | rfl
 ·have hl:=run_look w3 Try.underlying104 Try.underlying3 HM.out (j:=0) (i:=0) (v:=boundF 97 A1 l1.length c1 a2) (by rfl)
  unfold boundF at hl
  cases ok with
  | false =>
   have h:=H.out
   rw [if_neg (by decide)] at h
   simp only [Option.some.injEq,Prod.mk.injEq] at h
   obtain ⟨rfl,rfl⟩:=h
   go_wp2_with fail
   go_ret2
   exact ⟨_,rfl,Kd.R_nil _ _ _ _ _,HB.out⟩
  | true =>
   have h:=H.out
   rw [if_pos rfl] at h
   rw [if_pos (by rfl)] at h
   obtain ⟨x,hx,h⟩:=Option.bind_eq_some_iff.1 h
   simp only [Option.some.injEq,Prod.mk.injEq] at h
   obtain ⟨rfl,rfl⟩:=h
   have HX:=Aside0.mk hx
   clear hx H
   go_wp2_with fail
   refine (shares_claims_proportional.calls k A1 c1 l1 a2 x _ (Kd.C_below HR1.out HB.out) HC1.out HX.out).mono ?_
   rintro e w5 ⟨v,rfl,hr,hb⟩
   have HR5:=Aside0.mk (Kd.R_lower hr HB.out.size)
   have HB5:=Aside0.mk (below_step HB.out hb)
   clear hr hb hl
   go_wp2
   go_ret2
   exact ⟨_,rfl,HR5.out,HB5.out⟩
 ·have hl:=run_look w3 Try.underlying104 Try.underlying3 HM.out (j:=1) (i:=1) (v:=boundF 98 A1 l1.length c1 a2) (by rfl)
  unfold boundF at hl
  cases ok with
  | false =>
   have h:=H.out
   rw [if_neg (by decide)] at h
   simp only [Option.some.injEq,Prod.mk.injEq] at h
   obtain ⟨rfl,rfl⟩:=h
   go_wp2_with fail
   go_ret2
   exact ⟨_,rfl,Kd.R_nil _ _ _ _ _,HB.out⟩
  | true =>
   have h:=H.out
   rw [if_pos rfl] at h
   rw [if_neg (by decide)] at h;rw [if_pos (by rfl)] at h
   obtain ⟨x,hx,h⟩:=Option.bind_eq_some_iff.1 h
   simp only [Option.some.injEq,Prod.mk.injEq] at h
   obtain ⟨rfl,rfl⟩:=h
   have HX:=Aside0.mk hx
   clear hx H
   go_wp2_with fail
   refine (shares_claims_awards.calls k A1 c1 l1 a2 x _ (Kd.C_below HR1.out HB.out) HC1.out HX.out).mono ?_
   rintro e w5 ⟨v,rfl,hr,hb⟩
   have HR5:=Aside0.mk (Kd.R_lower hr HB.out.size)
   have HB5:=Aside0.mk (below_step HB.out hb)
   clear hr hb hl
   go_wp2
   go_ret2
   exact ⟨_,rfl,HR5.out,HB5.out⟩
 ·have hl:=run_look w3 Try.underlying104 Try.underlying3 HM.out (j:=2) (i:=2) (v:=boundF 99 A1 l1.length c1 a2) (by rfl)
  unfold boundF at hl
  cases ok with
  | false =>
   have h:=H.out
   rw [if_neg (by decide)] at h
   simp only [Option.some.injEq,Prod.mk.injEq] at h
   obtain ⟨rfl,rfl⟩:=h
   go_wp2_with fail
   go_ret2
   exact ⟨_,rfl,Kd.R_nil _ _ _ _ _,HB.out⟩
  | true =>
   have h:=H.out
   rw [if_pos rfl] at h
   rw [if_neg (by decide)] at h;rw [if_neg (by decide)] at h;rw [if_pos (by rfl)] at h
   obtain ⟨x,hx,h⟩:=Option.bind_eq_some_iff.1 h
   simp only [Option.some.injEq,Prod.mk.injEq] at h
   obtain ⟨rfl,rfl⟩:=h
   have HX:=Aside0.mk hx
   clear hx H
   go_wp2_with fail
   refine (shares_claims_losses.calls k A1 c1 l1 a2 x _ (Kd.C_below HR1.out HB.out) HC1.out HX.out).mono ?_
   rintro e w5 ⟨v,rfl,hr,hb⟩
   have HR5:=Aside0.mk (Kd.R_lower hr HB.out.size)
   have HB5:=Aside0.mk (below_step HB.out hb)
   clear hr hb hl
   go_wp2
   go_ret2
   exact ⟨_,rfl,HR5.out,HB5.out⟩
 ·have hl:=run_look w3 Try.underlying104 Try.underlying3 HM.out (j:=3) (i:=3) (v:=boundF 100 A1 l1.length c1 a2) (by rfl)
  unfold boundF at hl
  cases ok with
  | false =>
   have h:=H.out
   rw [if_neg (by decide)] at h
   simp only [Option.some.injEq,Prod.mk.injEq] at h
   obtain ⟨rfl,rfl⟩:=h
   go_wp2_with fail
   go_ret2
   exact ⟨_,rfl,Kd.R_nil _ _ _ _ _,HB.out⟩
  | true =>
   have h:=H.out
   rw [if_pos rfl] at h
   rw [if_neg (by decide)] at h;rw [if_neg (by decide)] at h;rw [if_neg (by decide)] at h;rw [if_pos (by rfl)] at h
   obtain ⟨x,hx,h⟩:=Option.bind_eq_some_iff.1 h
   simp only [Option.some.injEq,Prod.mk.injEq] at h
   obtain ⟨rfl,rfl⟩:=h
   have HX:=Aside0.mk hx
   clear hx H
   go_wp2_with fail
   refine (shares_claims_talmud.calls k A1 c1 l1 a2 x _ (Kd.C_below HR1.out HB.out) HC1.out HX.out).mono ?_
   rintro e w5 ⟨v,rfl,hr,hb⟩
   have HR5:=Aside0.mk (Kd.R_lower hr HB.out.size)
   have HB5:=Aside0.mk (below_step HB.out hb)
   clear hr hb hl
   go_wp2
   go_ret2
   exact ⟨_,rfl,HR5.out,HB5.out⟩
 have hl:=run_look w3 Try.underlying104 Try.underlying3 HM.out (j:=4) (i:=4) (v:=boundF 101 A1 l1.length c1 a2) (by rfl)
 unfold boundF at hl
 cases ok with
 | false =>
  have h:=H.out
  rw [if_neg (by decide)] at h
  simp only [Option.some.injEq,Prod.mk.injEq] at h
  obtain ⟨rfl,rfl⟩:=h
  go_wp2_with fail
  go_ret2
  exact ⟨_,rfl,Kd.R_nil _ _ _ _ _,HB.out⟩
 | true =>
  have h:=H.out
  rw [if_pos rfl] at h
  rw [if_neg (by decide)] at h;rw [if_neg (by decide)] at h;rw [if_neg (by decide)] at h;rw [if_neg (by decide)] at h;rw [if_pos (by rfl)] at h
  obtain ⟨x,hx,h⟩:=Option.bind_eq_some_iff.1 h
  simp only [Option.some.injEq,Prod.mk.injEq] at h
  obtain ⟨rfl,rfl⟩:=h
  have HX:=Aside0.mk hx
  clear hx H
  go_wp2_with fail
  refine (shares_claims_piniles.calls k A1 c1 l1 a2 x _ (Kd.C_below HR1.out HB.out) HC1.out HX.out).mono ?_
  rintro e w5 ⟨v,rfl,hr,hb⟩
  have HR5:=Aside0.mk (Kd.R_lower hr HB.out.size)
  have HB5:=Aside0.mk (below_step HB.out hb)
  clear hr hb hl
  go_wp2
  go_ret2
  exact ⟨_,rfl,HR5.out,HB5.out⟩
end Go.Proofs.Ytjohcjfmlhihbaa.G
namespace Go.Proofs.Ytjohcjfmlhihbaa.P
open Go Go.RowKit Go.Proofs.Ytjohcjfmlhihbaa.G
open Go.Proofs.YtjohcjfmlhihbaaW.PrintWords Go.Proofs.YtjohcjfmlhihbaaW.PrintMore
theorem tot_den {D:Nat} (h0:0 < D):∀ {l:List Rat},(∀ c ∈ l,c.den ∣ D) → (tot l).den ∣ D
 | [],_=>Nat.one_dvd _
 | a :: l,h=>add_den_dvd' (h a (by simp)) (tot_den h0 (fun c hc=>h c (List.mem_cons_of_mem _ hc))) h0
theorem tot_min (L:Rat):∀ l:List Rat,tot (l.map fun c=>min c L) = tot (l.map fun c=>if c ≤ L then c else 0) + ((l.countP fun c=>decide (L < c):Nat):Rat) * L
 | []=>by simp [tot_nil];grind
 | a :: l=>by
  rw [List.map_cons,List.map_cons,tot_cons,tot_cons,tot_min L l,List.countP_cons,Rat.min_def]
  by_cases h:a ≤ L
  ·have h':¬ L < a:=by grind
   rw [if_pos h,if_pos h,if_neg (by simpa using h')]
   push_cast;grind
  ·have h':L < a:=by grind
   rw [if_neg h,if_neg h,if_pos (by simpa using h')]
   push_cast;grind
theorem IsEq.den {l:List Rat} {E:Rat} {x:List Rat} (h:IsEq l E x) {D:Nat} (h0:0 < D) (hl:∀ c ∈ l,c.den ∣ D) (hE:E.den ∣ D):∀ y ∈ x,∃ m,1 ≤ m ∧ m ≤ l.length ∧ y.den ∣ D * m:=by
 obtain ⟨L,rfl,ht⟩:=h
 intro y hy
 obtain ⟨c,hc,rfl⟩:=List.mem_map.1 hy
 have hlen:1 ≤ l.length:=List.length_pos_iff.2 (List.ne_nil_of_mem hc)
 rw [Rat.min_def]
 by_cases h1:c ≤ L
 ·rw [if_pos h1]
  exact ⟨1,Nat.le_refl _,hlen,by rw [Nat.mul_one];exact hl c hc⟩
 ·rw [if_neg h1]
  obtain ⟨m,hm⟩:∃ m,l.countP (fun c=>decide (L < c)) = m:=⟨_,rfl⟩
  have hm1:1 ≤ m:=by
   rw [← hm]
   exact List.countP_pos_iff.2 ⟨c,hc,by simp;grind⟩
  have hm2:m ≤ l.length:=by rw [← hm];exact List.countP_le_length
  rw [tot_min,hm] at ht
  have hS:(tot (l.map fun c=>if c ≤ L then c else 0)).den ∣ D:=tot_den h0 (fun z hz=>by
   obtain ⟨d,hd,rfl⟩:=List.mem_map.1 hz
   split
   ·exact hl d hd
   ·exact Nat.one_dvd _)
  have hp:=nat_pos_rat (n:=m) (by omega)
  have hL:L = (E - tot (l.map fun c=>if c ≤ L then c else 0)) / (m:Rat):=by
   rw [← ht]
   have:(tot (l.map fun c=>if c ≤ L then c else 0) + (m:Rat) * L - tot (l.map fun c=>if c ≤ L then c else 0)) = L * (m:Rat):=by grind
   rw [this]
   exact (Rat.mul_div_cancel (by grind)).symm
  refine ⟨m,hm1,hm2,?_⟩
  rw [hL]
  exact Nat.dvd_trans (over_den _ (by omega)) (Nat.mul_dvd_mul_right (sub_den_dvd' hE hS h0) _)
theorem IsEq.den2 {l:List Rat} {E:Rat} {x:List Rat} (h:IsEq l E x) {D:Nat} (h0:0 < D) (hl:∀ c ∈ l,c.den ∣ D) (hE:E.den ∣ D) (hlen:1 ≤ l.length):∃ m,1 ≤ m ∧ m ≤ l.length ∧ ∀ y ∈ x,y.den ∣ D * m:=by
 obtain ⟨L,rfl,ht⟩:=h
 by_cases hall:∀ c ∈ l,c ≤ L
 ·refine ⟨1,Nat.le_refl _,hlen,fun y hy=>?_⟩
  obtain ⟨c,hc,rfl⟩:=List.mem_map.1 hy
  rw [Rat.min_def,if_pos (hall c hc),Nat.mul_one]
  exact hl c hc
 ·have hex:∃ c ∈ l,¬ c ≤ L:=by
   apply Classical.byContradiction
   intro hno
   exact hall fun c hc=>Classical.byContradiction fun hcl=>hno ⟨c,hc,hcl⟩
  obtain ⟨d,hd,hdL⟩:=hex
  obtain ⟨m,hm⟩:∃ m,l.countP (fun c=>decide (L < c)) = m:=⟨_,rfl⟩
  have hm1:1 ≤ m:=by
   rw [← hm]
   exact List.countP_pos_iff.2 ⟨d,hd,by simp;grind⟩
  have hm2:m ≤ l.length:=by rw [← hm];exact List.countP_le_length
  rw [tot_min,hm] at ht
  have hS:(tot (l.map fun c=>if c ≤ L then c else 0)).den ∣ D:=tot_den h0 (fun z hz=>by
   obtain ⟨d,hd,rfl⟩:=List.mem_map.1 hz
   split
   ·exact hl d hd
   ·exact Nat.one_dvd _)
  have hp:=nat_pos_rat (n:=m) (by omega)
  have hL:L = (E - tot (l.map fun c=>if c ≤ L then c else 0)) / (m:Rat):=by
   rw [← ht]
   have:(tot (l.map fun c=>if c ≤ L then c else 0) + (m:Rat) * L - tot (l.map fun c=>if c ≤ L then c else 0)) = L * (m:Rat):=by grind
   rw [this]
   exact (Rat.mul_div_cancel (by grind)).symm
  have hLd:L.den ∣ D * m:=by
   rw [hL]
   exact Nat.dvd_trans (over_den _ (by omega)) (Nat.mul_dvd_mul_right (sub_den_dvd' hE hS h0) _)
  refine ⟨m,hm1,hm2,fun y hy=>?_⟩
  obtain ⟨c,hc,rfl⟩:=List.mem_map.1 hy
  rw [Rat.min_def]
  split
  ·exact Nat.dvd_trans (hl c hc) (Nat.dvd_mul_right _ _)
  ·exact hLd
def cl (l:List Int):List Rat:=l.map fun n:Int=>(n:Rat)
theorem cl_length (l:List Int):(cl l).length = l.length:=List.length_map _
theorem tot_cl (l:List Int):tot (cl l) = (sI l:Rat):=cast_sum l
theorem int_rat_le {a b:Int}:(a:Rat) ≤ (b:Rat) ↔ a ≤ b:=Rat.intCast_le_intCast
theorem okC_int {n:Int} (h:0 ≤ n ∧ n ≤ 1000):OkC (n:Rat) :=
 ⟨by have:=int_rat_le.2 h.1;simpa using this,by have:=int_rat_le.2 h.2;simpa using this,by rw [whole_den];exact Nat.one_dvd _⟩
theorem okC_half {n:Int} (h:0 ≤ n ∧ n ≤ 1000):OkC ((n:Rat) / 2):=by
 have h0:=(okC_int h).lo
 have h1:=(okC_int h).hi
 have:=over_le (E:=(n:Rat)) (n:=2) (by omega) h0
 have e:((2:Nat):Rat) = 2:=rfl
 rw [e] at this
 refine ⟨this.1,Rat.le_trans this.2 h1,?_⟩
 have hd:=over_den (n:Rat) (n:=2) (by omega)
 rw [e,whole_den] at hd
 exact hd
theorem cl_okC {l:List Int} (h:IsCl l):∀ c ∈ cl l,OkC c:=fun c hc=>by
 obtain ⟨n,hn,rfl⟩:=List.mem_map.1 hc
 exact okC_int (h.mem n hn)
theorem cl_half_okC {l:List Int} (h:IsCl l):∀ c ∈ (cl l).map (· / 2),OkC c:=fun c hc=>by
 obtain ⟨d,hd,rfl⟩:=List.mem_map.1 hc
 obtain ⟨n,hn,rfl⟩:=List.mem_map.1 hd
 exact okC_half (h.mem n hn)
theorem cl_get {l:List Int} {i:Nat} (h:i < l.length):(cl l)[i]'(by rw [cl_length];exact h) = (l[i]:Rat):=List.getElem_map _
theorem take_encL (g:Rat → Rat) (q:List Rat) {i:Nat} (h:i < q.length):encL ((q.take i).map g) ++ [encQ (g q[i])] = encL ((q.take (i + 1)).map g):=by
 rw [List.take_succ_eq_append_getElem h,List.map_append]
 unfold encL
 rw [List.map_append]
 rfl
theorem encL_take_length (g:Rat → Rat) (q:List Rat) (i:Nat):(encL ((q.take i).map g)).length ≤ q.length:=by
 rw [encL_length,List.length_map,List.length_take];omega
section
variable {l:List Int} (h:IsCl l)
include h
theorem whole_l0:∀ (d i:Nat),i + d = l.length → Ev (fun k=>each_whole.l0 k (encL (((cl l).take i).map id)) l (l.length:Int) (i:Int)) (encL ((cl l).map id)):=by
 intro d
 have hl:=h.ten
 induction d with
 | zero =>
  intro i hi
  refine Ev.step (f:=fun _=>some (encL ((cl l).map id))) (fun k=>?_) (Ev.now _)
  rw [each_whole.l0,if_neg (by omega),List.take_of_length_le (by rw [cl_length];omega)]
 | succ d ih =>
  intro i hi
  have hil:i < l.length:=by omega
  have hlen:=encL_take_length id (cl l) i
  rw [cl_length] at hlen
  refine Ev.step (fun k=>?_) (ih (i + 1) (by omega))
  have hic:i < (cl l).length:=by rw [cl_length];exact hil
  have e:(⟨l[i],1⟩:S23) = encQ (id (cl l)[i]):=by rw [cl_get hil];unfold encQ;rw [id,whole_num,whole_den];rfl
  rw [each_whole.l0,if_pos (by omega),if_pos (by omega),if_pos (by omega),rd_get hil]
  simp only [shares_whole.f,Option.bind_some]
  rw [if_pos (by omega),e,take_encL id (cl l) (by rw [cl_length];exact hil),wrap_succ (by omega)]
theorem ev_whole (e:Int):Ev (fun k=>each_whole.f k l e) (encL (cl l)):=by
 have:=whole_l0 h l.length 0 (by omega)
 rw [List.map_id (cl l)] at this
 exact this
theorem halves_l0:∀ (d i:Nat),i + d = l.length → Ev (fun k=>each_halves.l0 k (encL (((cl l).take i).map (· / 2))) l (l.length:Int) (i:Int)) (encL ((cl l).map (· / 2))):=by
 intro d
 have hl:=h.ten
 induction d with
 | zero =>
  intro i hi
  refine Ev.step (f:=fun _=>some (encL ((cl l).map (· / 2)))) (fun k=>?_) (Ev.now _)
  rw [each_halves.l0,if_neg (by omega),List.take_of_length_le (by rw [cl_length];omega)]
 | succ d ih =>
  intro i hi
  have hil:i < l.length:=by omega
  have hlen:=encL_take_length (· / 2) (cl l) i
  rw [cl_length] at hlen
  have hm:=h.mem _ (List.getElem_mem hil)
  obtain ⟨K1,e1⟩:=ev_frac l[i] 2 (by omega) (by omega) (by omega)
  obtain ⟨K2,e2⟩:=ih (i + 1) (by omega)
  refine ⟨K1 + K2 + 1,fun k hk=>?_⟩
  obtain ⟨m,rfl⟩:∃ m,k = m + 1:=⟨k - 1,by omega⟩
  have f1:shares_frac.f m l[i] 2 = _:=e1 m (by omega)
  have f2:=e2 m (by omega)
  have e:(⟨(mkRat l[i] 2).num,((mkRat l[i] 2).den:Int)⟩:S23) = encQ ((cl l)[i]'(by rw [cl_length];exact hil) / 2):=by
   rw [cl_get hil,mk_frac];rfl
  show each_halves.l0 (m + 1) _ _ _ _ = _
  rw [each_halves.l0,if_pos (by omega),if_pos (by omega),if_pos (by omega),rd_get hil]
  simp only [shares_claims_halves_1.f,f1,Option.bind_some]
  rw [if_pos (by omega),e,take_encL (· / 2) (cl l) (by rw [cl_length];exact hil),wrap_succ (by omega)]
  exact f2
theorem ev_halves (e:Int):Ev (fun k=>shares_claims_halves.f k l e) (encL ((cl l).map (· / 2))):=by
 unfold shares_claims_halves.f each_halves.f
 exact Ev.bind (halves_l0 h l.length 0 (by omega)) (Ev.now _)
theorem prop_l0 {E:Int} (h0:0 ≤ E) (h1:E ≤ 10000) {a:Nat} (ha:0 < a) (ha2:a ≤ 10000):∀ (d i:Nat),i + d = l.length → Ev (fun k=>each_prop.l0 E (a:Int) k (encL (((cl l).take i).map fun c=>c * (E:Rat) / (a:Rat))) l (l.length:Int) (i:Int)) (encL ((cl l).map fun c=>c * (E:Rat) / (a:Rat))):=by
 intro d
 have hl:=h.ten
 induction d with
 | zero =>
  intro i hi
  refine Ev.step (f:=fun _=>some (encL ((cl l).map fun c=>c * (E:Rat) / (a:Rat)))) (fun k=>?_) (Ev.now _)
  rw [each_prop.l0,if_neg (by omega),List.take_of_length_le (by rw [cl_length];omega)]
 | succ d ih =>
  intro i hi
  have hil:i < l.length:=by omega
  have hlen:=encL_take_length (fun c=>c * (E:Rat) / (a:Rat)) (cl l) i
  rw [cl_length] at hlen
  have hm:=h.mem _ (List.getElem_mem hil)
  have hb:(l[i] * E).natAbs ≤ 1000 * 10000:=by
   rw [Int.natAbs_mul];exact Nat.mul_le_mul (by omega) (by omega)
  obtain ⟨K1,e1⟩:=ev_frac (l[i] * E) a ha (by omega) (by omega)
  obtain ⟨K2,e2⟩:=ih (i + 1) (by omega)
  refine ⟨K1 + K2 + 1,fun k hk=>?_⟩
  obtain ⟨m,rfl⟩:∃ m,k = m + 1:=⟨k - 1,by omega⟩
  have f1:=e1 m (by omega)
  have f2:=e2 m (by omega)
  have e:(⟨(mkRat (l[i] * E) a).num,((mkRat (l[i] * E) a).den:Int)⟩:S23) = encQ ((cl l)[i]'(by rw [cl_length];exact hil) * (E:Rat) / (a:Rat)):=by
   rw [cl_get hil,mk_frac];push_cast;rfl
  show each_prop.l0 _ _ (m + 1) _ _ _ _ = _
  rw [each_prop.l0,if_pos (by omega),if_pos (by omega),if_pos (by omega),rd_get hil]
  simp only [prop_1.f]
  rw [wrap_abs (by omega:(l[i] * E).natAbs < _)]
  simp only [f1,Option.bind_some]
  rw [if_pos (by omega),e,take_encL (fun c=>c * (E:Rat) / (a:Rat)) (cl l) (by rw [cl_length];exact hil),wrap_succ (by omega)]
  exact f2
theorem losses_l0 {g:Rat → Rat} (hg:∀ n:Int,0 ≤ n ∧ n ≤ 1000 → n ∈ l → Sm 20000 20 (g (n:Rat))):∀ (d i:Nat),i + d = l.length → Ev (fun k=>shares_claims_losses.l0 k (encL ((cl l).map g)) (encL (((cl l).take i).map fun c=>c - g c)) l (l.length:Int) (i:Int)) (encL ((cl l).map fun c=>c - g c)):=by
 intro d
 have hl:=h.ten
 induction d with
 | zero =>
  intro i hi
  refine Ev.step (f:=fun _=>some (encL ((cl l).map fun c=>c - g c))) (fun k=>?_) (Ev.now _)
  rw [shares_claims_losses.l0,if_neg (by omega),List.take_of_length_le (by rw [cl_length];omega)]
 | succ d ih =>
  intro i hi
  have hil:i < l.length:=by omega
  have hic:i < (cl l).length:=by rw [cl_length];exact hil
  have hlen:=encL_take_length (fun c=>c - g c) (cl l) i
  rw [cl_length] at hlen
  have hm:=h.mem _ (List.getElem_mem hil)
  have e1:=ev_minus ((Sm.int (n:=l[i]) (A:=1000) (by omega)).fits (hg _ hm (List.getElem_mem hil)) (by decide) (by decide))
  rw [whole_num,whole_den] at e1
  obtain ⟨K1,e1⟩:=e1
  obtain ⟨K2,e2⟩:=ih (i + 1) (by omega)
  refine ⟨K1 + K2 + 1,fun k hk=>?_⟩
  obtain ⟨m,rfl⟩:∃ m,k = m + 1:=⟨k - 1,by omega⟩
  have f1:shares_minus.f m l[i] 1 _ _ = _:=e1 m (by omega)
  have f2:=e2 m (by omega)
  have hrd:rd_T23 (encL ((cl l).map g)) (i:Int) = encQ (g (l[i]:Rat)):=by
   rw [rdE (by rw [List.length_map];exact hic),List.getElem_map,cl_get hil]
  have e:(⟨((l[i]:Rat) - g (l[i]:Rat)).num,(((l[i]:Rat) - g (l[i]:Rat)).den:Int)⟩:S23) = encQ ((fun c=>c - g c) (cl l)[i]):=by
   rw [cl_get hil];rfl
  show shares_claims_losses.l0 (m + 1) _ _ _ _ _ = _
  rw [shares_claims_losses.l0,if_pos (by omega),if_pos (by omega),if_pos (by omega),rd_get hil,encL_length,List.length_map,cl_length]
  simp only [shares_whole.f,Option.bind_some]
  rw [if_pos (by omega),hrd]
  simp only [encQ,f1,Option.bind_some]
  rw [if_pos (by omega),e,take_encL (fun c=>c - g c) (cl l) hic,wrap_succ (by omega)]
  exact f2
theorem talmud_l0 {g:Rat → Rat} (hg:∀ n:Int,0 ≤ n ∧ n ≤ 1000 → n ∈ l → Sm 20000 20 (g (n:Rat))):∀ (d i:Nat),i + d = l.length → Ev (fun k=>shares_claims_talmud.l0 k (encL ((cl l).map g)) (encL (((cl l).take i).map fun c=>c - g c)) l (l.length:Int) (i:Int)) (encL ((cl l).map fun c=>c - g c)):=by
 intro d
 have hl:=h.ten
 induction d with
 | zero =>
  intro i hi
  refine Ev.step (f:=fun _=>some (encL ((cl l).map fun c=>c - g c))) (fun k=>?_) (Ev.now _)
  rw [shares_claims_talmud.l0,if_neg (by omega),List.take_of_length_le (by rw [cl_length];omega)]
 | succ d ih =>
  intro i hi
  have hil:i < l.length:=by omega
  have hic:i < (cl l).length:=by rw [cl_length];exact hil
  have hlen:=encL_take_length (fun c=>c - g c) (cl l) i
  rw [cl_length] at hlen
  have hm:=h.mem _ (List.getElem_mem hil)
  have e1:=ev_minus ((Sm.int (n:=l[i]) (A:=1000) (by omega)).fits (hg _ hm (List.getElem_mem hil)) (by decide) (by decide))
  rw [whole_num,whole_den] at e1
  obtain ⟨K1,e1⟩:=e1
  obtain ⟨K2,e2⟩:=ih (i + 1) (by omega)
  refine ⟨K1 + K2 + 1,fun k hk=>?_⟩
  obtain ⟨m,rfl⟩:∃ m,k = m + 1:=⟨k - 1,by omega⟩
  have f1:shares_minus.f m l[i] 1 _ _ = _:=e1 m (by omega)
  have f2:=e2 m (by omega)
  have hrd:rd_T23 (encL ((cl l).map g)) (i:Int) = encQ (g (l[i]:Rat)):=by
   rw [rdE (by rw [List.length_map];exact hic),List.getElem_map,cl_get hil]
  have e:(⟨((l[i]:Rat) - g (l[i]:Rat)).num,(((l[i]:Rat) - g (l[i]:Rat)).den:Int)⟩:S23) = encQ ((fun c=>c - g c) (cl l)[i]):=by
   rw [cl_get hil];rfl
  show shares_claims_talmud.l0 (m + 1) _ _ _ _ _ = _
  rw [shares_claims_talmud.l0,if_pos (by omega),if_pos (by omega),if_pos (by omega),rd_get hil,encL_length,List.length_map,cl_length]
  simp only [shares_whole.f,Option.bind_some]
  rw [if_pos (by omega),hrd]
  simp only [encQ,f1,Option.bind_some]
  rw [if_pos (by omega),e,take_encL (fun c=>c - g c) (cl l) hic,wrap_succ (by omega)]
  exact f2
end
theorem piniles_l0 {q:List Rat} (hq:∀ c ∈ q,OkC c) (hl:q.length ≤ 10) {g:Rat → Rat} (hg:∀ c ∈ q,Sm 20000 20 (g c)):∀ (d i:Nat),i + d = q.length → Ev (fun k=>shares_claims_piniles.l0 k (encL (q.map g)) (encL ((q.take i).map fun c=>c + g c)) (encL q) (q.length:Int) (i:Int)) (encL (q.map fun c=>c + g c)):=by
 intro d
 induction d with
 | zero =>
  intro i hi
  refine Ev.step (f:=fun _=>some (encL (q.map fun c=>c + g c))) (fun k=>?_) (Ev.now _)
  rw [shares_claims_piniles.l0,if_neg (by omega),List.take_of_length_le (by omega)]
 | succ d ih =>
  intro i hi
  have hil:i < q.length:=by omega
  have hlen:=encL_take_length (fun c=>c + g c) q i
  have e1:=ev_add ((hq _ (List.getElem_mem hil)).sm.fits (hg _ (List.getElem_mem hil)) (by decide) (by decide))
  obtain ⟨K1,e1⟩:=e1
  obtain ⟨K2,e2⟩:=ih (i + 1) (by omega)
  refine ⟨K1 + K2 + 1,fun k hk=>?_⟩
  obtain ⟨m,rfl⟩:∃ m,k = m + 1:=⟨k - 1,by omega⟩
  have f1:=e1 m (by omega)
  have f2:=e2 m (by omega)
  have hrd:rd_T23 (encL (q.map g)) (i:Int) = encQ (g q[i]):=by rw [rdE (by rw [List.length_map];exact hil),List.getElem_map]
  have e:(⟨(q[i] + g q[i]).num,((q[i] + g q[i]).den:Int)⟩:S23) = encQ ((fun c=>c + g c) q[i]):=rfl
  show shares_claims_piniles.l0 (m + 1) _ _ _ _ _ = _
  rw [shares_claims_piniles.l0,encL_length,encL_length,List.length_map,if_pos (by omega),if_pos (by omega),if_pos (by omega),if_pos (by omega),rdE hil,hrd]
  simp only [encQ,f1,Option.bind_some]
  rw [if_pos (by omega),e,take_encL (fun c=>c + g c) q hil,wrap_succ (by omega)]
  exact f2
end Go.Proofs.Ytjohcjfmlhihbaa.P
namespace Go.Proofs.Ytjohcjfmlhihbaa.P
open Go Go.RowKit Go.Proofs.Ytjohcjfmlhihbaa.G
open Go.Proofs.YtjohcjfmlhihbaaW.PrintWords Go.Proofs.YtjohcjfmlhihbaaW.PrintMore
theorem S_single {m j:Nat} (hj:j < m) (r:Rat):S m (fun u=>if u = j then r else 0) = r:=by
 induction m with
 | zero=>omega
 | succ m ih =>
  unfold S
  rw [List.range_succ,List.map_append,tot_append]
  by_cases h:j = m
  ·subst h
   have:tot ((List.range j).map fun u=>if u = j then r else 0) = 0:=S_zero (m:=j) (fun u hu=>by rw [if_neg (by omega)])
   rw [this]
   simp only [List.map_cons,List.map_nil,tot_cons,tot_nil,if_true]
   grind
  ·have:=ih (by omega)
   unfold S at this
   rw [this]
   simp only [List.map_cons,List.map_nil,tot_cons,tot_nil]
   rw [if_neg (fun e=>h e.symm)]
   grind
theorem S_update {m j:Nat} (hj:j < m) {f g:Nat → Rat} (h:∀ u,u < m → u ≠ j → g u = f u):S m g = S m f + (g j - f j):=by
 have e:S m (fun u=>g u - f u) = S m (fun u=>if u = j then g j - f j else 0):=S_congr fun u hu=>by
  by_cases hu2:u = j
  ·subst hu2;rw [if_pos rfl]
  ·rw [if_neg hu2,h u hu hu2];grind
 rw [S_sub,S_single hj] at e
 grind
structure Rq (l:List Int) (E e:Int) (done:List Bool) (left:Nat) (out:List S23):Prop where
 dl:done.length = l.length
 ol:out.length = l.length
 cnt:(left:Rat) = S l.length (fun i=>if done.getD i false then 0 else 1)
 est:(e:Rat) = (E:Rat) - S l.length (fun i=>if done.getD i false then ((l.getD i 0:Int):Rat) else 0)
 e0:0 ≤ e
 eb:e ≤ 20000
 lb:left ≤ 10
 ok:∀ i,i < l.length → done.getD i false = true → l.getD i 0 * (left:Int) ≤ e ∧ out.getD i z23 = encQ ((l.getD i 0:Int):Rat)
section
variable {l:List Int} (h:IsCl l) {E:Int}
include h
theorem Rq.next {e:Int} {done:List Bool} {left:Nat} {out:List S23} (s:Rq l E e done (left + 1) out) {j:Nat} (hj:j < l.length) (hd:done.getD j false = false) (hc:l.getD j 0 * ((left + 1:Nat):Int) ≤ e) :
  Rq l E (e - l.getD j 0) (done.set j true) left (out.set j (encQ ((l.getD j 0:Int):Rat))):=by
 have hg:l.getD j 0 = l[j]:=by simp [hj]
 have hm:=h.mem _ (List.getElem_mem hj)
 rw [← hg] at hm
 have gd:∀ u,(done.set j true).getD u false = if u = j then true else done.getD u false:=by
  intro u
  simp only [List.getD_eq_getElem?_getD,List.getElem?_set]
  by_cases e1:u = j
  ·subst e1;simp [s.dl,hj]
  ·rw [if_neg (fun e=>e1 e.symm),if_neg e1]
 have go:∀ u,(out.set j (encQ ((l.getD j 0:Int):Rat))).getD u z23 = if u = j then encQ ((l.getD j 0:Int):Rat) else out.getD u z23:=by
  intro u
  simp only [List.getD_eq_getElem?_getD,List.getElem?_set]
  by_cases e1:u = j
  ·subst e1;simp [s.ol,hj]
  ·rw [if_neg (fun e=>e1 e.symm),if_neg e1]
 have hc2:l.getD j 0 * (left:Int) + l.getD j 0 ≤ e:=by
  have:l.getD j 0 * ((left + 1:Nat):Int) = l.getD j 0 * (left:Int) + l.getD j 0:=by push_cast;rw [Int.mul_add,Int.mul_one]
  omega
 have hpos:0 ≤ l.getD j 0 * (left:Int):=Int.mul_nonneg hm.1 (by omega)
 refine ⟨by rw [List.length_set];exact s.dl,by rw [List.length_set];exact s.ol,?_,?_,by omega,by have:=s.eb;omega,by have:=s.lb;omega,fun i hi hid=>?_⟩
 ·have hu:=S_update hj (f:=fun i=>if done.getD i false then (0:Rat) else 1) (g:=fun i=>if (done.set j true).getD i false then 0 else 1) (fun u _ hu=>by simp only [gd,if_neg hu])
  rw [hu,← s.cnt]
  simp only [gd,if_true,hd,Bool.false_eq_true,if_false]
  push_cast;grind
 ·have hu:=S_update hj (f:=fun i=>if done.getD i false then ((l.getD i 0:Int):Rat) else 0) (g:=fun i=>if (done.set j true).getD i false then ((l.getD i 0:Int):Rat) else 0) (fun u _ hu=>by simp only [gd,if_neg hu])
  rw [hu]
  simp only [gd,if_true,hd,Bool.false_eq_true,if_false]
  have:=s.est
  push_cast
  grind
 ·rw [gd] at hid
  rw [go]
  by_cases e1:i = j
  ·subst e1
   rw [if_pos rfl]
   exact ⟨by omega,rfl⟩
  ·rw [if_neg e1] at hid ⊢
   obtain ⟨k1,k2⟩:=s.ok i hi hid
   refine ⟨?_,k2⟩
   have hi2:l.getD i 0 * ((left + 1:Nat):Int) = l.getD i 0 * (left:Int) + l.getD i 0:=by push_cast;rw [Int.mul_add,Int.mul_one]
   rw [hi2] at k1
   have a1:(l.getD i 0 * (left:Int) + l.getD i 0) * (left:Int) ≤ e * (left:Int):=Int.mul_le_mul_of_nonneg_right k1 (by omega)
   by_cases hl0:left = 0
   ·subst hl0
    have:l.getD i 0 * ((0:Nat):Int) = 0:=by simp
    omega
   ·-- (left + 1) * (c_i * left) ≤ e * left ≤ (left + 1) * (e - c_j)
    have a2:e * (left:Int) ≤ ((left:Int) + 1) * (e - l.getD j 0):=by
     have:((left:Int) + 1) * (e - l.getD j 0) = e * (left:Int) + e - (l.getD j 0 * (left:Int) + l.getD j 0):=by grind
     omega
    have a3:(l.getD i 0 * (left:Int) + l.getD i 0) * (left:Int) = ((left:Int) + 1) * (l.getD i 0 * (left:Int)):=by grind
    rw [a3] at a1
    exact Int.le_of_mul_le_mul_left (Int.le_trans a1 a2) (by omega)
end
end Go.Proofs.Ytjohcjfmlhihbaa.P
namespace Go.Proofs.Ytjohcjfmlhihbaa.P
open Go Go.RowKit Go.Proofs.Ytjohcjfmlhihbaa.G
open Go.Proofs.YtjohcjfmlhihbaaW.PrintWords Go.Proofs.YtjohcjfmlhihbaaW.PrintMore
theorem min_small {q:List Rat} (hq:∀ c ∈ q,OkC c) (hl:q.length ≤ 10) {E L:Rat} (h0:0 ≤ E) (hE:E.den ∣ 2) (ht:tot (q.map fun c=>min c L) = E):∀ c ∈ q,Sm 20000 20 (min c L):=by
 intro c hc
 obtain ⟨m,hm1,hm2,hd⟩:=IsEq.den (l:=q) (E:=E) ⟨L,rfl,ht⟩ (D:=2) (by omega) (fun c hc=>(hq c hc).den) hE (min c L) (List.mem_map.2 ⟨c,hc,rfl⟩)
 have hL:=level_pos (List.ne_nil_of_mem hc) (fun c=>min c L) L (fun c _=>by grind) (by rw [ht];exact h0)
 have hd2:(min c L).den ≤ 20:=Nat.le_trans (Nat.le_of_dvd (by omega) hd) (by omega)
 have h1:=(hq c hc).lo
 have h2:=(hq c hc).hi
 exact ⟨Nat.le_trans (num_abs (B:=1000) (by grind) (by grind) hd2) (by decide),hd2⟩
theorem half_cl (l:List Int):tot ((cl l).map (· / 2)) = (sI l:Rat) / 2:=by
 have:=half_tot (cl l)
 rw [tot_cl] at this
 exact this
set_option linter.unusedSectionVars false
section
variable {l:List Int} (h:IsCl l) {E:Int} (h0:0 ≤ E) (h1:E ≤ sI l)
include h h0 h1
omit h0 h1 in
theorem sI_cl:0 ≤ sI l ∧ sI l ≤ 10000:=by
 have:=sI_bound h.mem
 have:=h.ten
 omega
theorem E_le:(E:Rat) ≤ tot (cl l):=by rw [tot_cl];exact int_rat_le.2 h1
omit h h1 in
theorem E_ge:(0:Rat) ≤ (E:Rat):=by have:=int_rat_le.2 h0;simpa using this
omit h h0 h1 in
theorem E_den (E:Int):(E:Rat).den ∣ 2:=by rw [whole_den];exact Nat.one_dvd _
theorem ev_awards:∃ x,IsRule 1 (cl l) (E:Rat) x ∧ Ev (fun k=>shares_claims_awards.f k l E) (encL x):=by
 obtain ⟨x,⟨L,rfl,ht⟩,hx⟩:=ev_equal (cl_okC h) (by rw [cl_length];exact h.ten) (E_ge h0) (E_le h h0 h1) (E_den E)
 refine ⟨_,⟨fun c=>min c L,⟨L,rfl⟩,rfl,ht⟩,?_⟩
 unfold shares_claims_awards.f
 refine Ev.bind (ev_whole h E) ?_
 simp only [shares_whole.f,Option.bind_some]
 rw [whole_num,whole_den] at hx
 exact Ev.bind hx (Ev.now _)
theorem ev_losses:∃ x,IsRule 2 (cl l) (E:Rat) x ∧ Ev (fun k=>shares_claims_losses.f k l E) (encL x):=by
 have hs:=sI_cl h
 have e:((sI l - E:Int):Rat) = tot (cl l) - (E:Rat):=by rw [tot_cl];push_cast;rfl
 have hd:(0:Rat) ≤ ((sI l - E:Int):Rat):=E_ge (by omega)
 have hge:=E_ge h0
 obtain ⟨x,⟨L,rfl,ht⟩,hx⟩:=ev_equal (cl_okC h) (by rw [cl_length];exact h.ten) hd (by rw [e];grind) (E_den _)
 have hsm:=min_small (cl_okC h) (by rw [cl_length];exact h.ten) hd (E_den _) ht
 refine ⟨_,⟨fun c=>c - min c L,⟨L,rfl⟩,rfl,?_⟩,?_⟩
 ·have:=tot_sub (fun c=>c) (fun c=>min c L) (cl l)
  rw [List.map_id'] at this
  rw [this,ht,e];grind
 ·unfold shares_claims_losses.f
  refine Ev.bind (ev_whole h E) (Ev.bind (ev_total h.mem (by have:=h.ten;omega)) ?_)
  rw [wrap_id (by omega) (by omega)]
  simp only [shares_whole.f,Option.bind_some]
  rw [whole_num,whole_den] at hx
  refine Ev.bind hx ?_
  exact losses_l0 h (g:=fun c=>min c L) (fun n _ hn=>hsm _ (List.mem_map.2 ⟨n,hn,rfl⟩)) l.length 0 (by omega)
omit h h0 h1 in
theorem map_half (L:Rat):((cl l).map (· / 2)).map (fun c=>min c L) = (cl l).map fun c=>min (c / 2) L:=by rw [List.map_map];rfl
theorem ev_low (hlow:2 * E ≤ sI l):∃ L,tot ((cl l).map fun c=>min (c / 2) L) = (E:Rat) ∧ Ev (fun k=>shares_equal.f k (encL ((cl l).map (· / 2))) E 1) (encL ((cl l).map fun c=>min (c / 2) L)):=by
 have hlen:((cl l).map (· / 2)).length ≤ 10:=by rw [List.length_map,cl_length];exact h.ten
 have hle:(E:Rat) ≤ tot ((cl l).map (· / 2)):=by
  rw [half_cl]
  have:((2 * E:Int):Rat) ≤ (sI l:Rat):=int_rat_le.2 hlow
  push_cast at this
  grind
 obtain ⟨x,⟨L,rfl,ht⟩,hx⟩:=ev_equal (cl_half_okC h) hlen (E_ge h0) hle (E_den E)
 rw [map_half] at ht hx
 rw [whole_num,whole_den] at hx
 exact ⟨L,ht,hx⟩
theorem low_cond (hlow:2 * E ≤ sI l):2 * (E:Rat) ≤ tot (cl l):=by
 rw [tot_cl]
 have:((2 * E:Int):Rat) ≤ (sI l:Rat):=int_rat_le.2 hlow
 push_cast at this
 exact this
theorem high_cond (hlow:¬ 2 * E ≤ sI l):tot (cl l) < 2 * (E:Rat):=by
 rw [tot_cl]
 have:((sI l:Int):Rat) < ((2 * E:Int):Rat):=Rat.intCast_lt_intCast.2 (by omega)
 push_cast at this
 exact this
theorem ev_talmud:∃ x,IsRule 3 (cl l) (E:Rat) x ∧ Ev (fun k=>shares_claims_talmud.f k l E) (encL x):=by
 have hs:=sI_cl h
 have htot:=ev_total h.mem (by have:=h.ten;omega)
 have hge:=E_ge h0
 have hle:=E_le h h0 h1
 unfold shares_claims_talmud.f
 by_cases hlow:2 * E ≤ sI l
 ·obtain ⟨L,ht,hx⟩:=ev_low h h0 h1 hlow
  refine ⟨_,⟨fun c=>min (c / 2) L,.inl ⟨low_cond h h0 h1 hlow,L,rfl⟩,rfl,ht⟩,?_⟩
  refine Ev.bind htot ?_
  rw [wrap_id (by omega) (by omega)]
  refine Ev.congr (fun k=>if_pos hlow) ?_
  refine Ev.bind (ev_halves h E) ?_
  simp only [shares_whole.f,Option.bind_some]
  exact Ev.bind hx (Ev.now _)
 ·have hlen:((cl l).map (· / 2)).length ≤ 10:=by rw [List.length_map,cl_length];exact h.ten
  have hd:(0:Rat) ≤ ((sI l - E:Int):Rat):=E_ge (by omega)
  have e:((sI l - E:Int):Rat) = tot (cl l) - (E:Rat):=by rw [tot_cl];push_cast;rfl
  have hhi:=high_cond h h0 h1 hlow
  have hh:=half_cl l
  rw [← tot_cl] at hh
  obtain ⟨x,⟨L,rfl,ht⟩,hx⟩:=ev_equal (cl_half_okC h) hlen hd (by rw [e,hh];grind) (E_den _)
  have hsm:=min_small (cl_half_okC h) hlen hd (E_den _) ht
  rw [map_half] at ht hx
  refine ⟨_,⟨fun c=>c - min (c / 2) L,.inr ⟨hhi,L,rfl⟩,rfl,?_⟩,?_⟩
  ·have:=tot_sub (fun c=>c) (fun c=>min (c / 2) L) (cl l)
   rw [List.map_id'] at this
   rw [this,ht,e];grind
  ·refine Ev.bind htot ?_
   rw [wrap_id (x:=2 * E) (by omega) (by omega)]
   refine Ev.congr (fun k=>if_neg hlow) ?_
   refine Ev.bind (ev_halves h E) (Ev.bind htot ?_)
   rw [wrap_id (by omega) (by omega)]
   simp only [shares_whole.f,Option.bind_some]
   rw [whole_num,whole_den] at hx
   refine Ev.bind hx ?_
   exact talmud_l0 h (g:=fun c=>min (c / 2) L) (fun n _ hn=>hsm _ (List.mem_map.2 ⟨(n:Rat),List.mem_map.2 ⟨n,hn,rfl⟩,rfl⟩)) l.length 0 (by omega)
theorem ev_piniles:∃ x,IsRule 4 (cl l) (E:Rat) x ∧ Ev (fun k=>shares_claims_piniles.f k l E) (encL x):=by
 have hs:=sI_cl h
 have htot:=ev_total h.mem (by have:=h.ten;omega)
 have hge:=E_ge h0
 have hle:=E_le h h0 h1
 unfold shares_claims_piniles.f
 by_cases hlow:2 * E ≤ sI l
 ·obtain ⟨L,ht,hx⟩:=ev_low h h0 h1 hlow
  refine ⟨_,⟨fun c=>min (c / 2) L,.inl ⟨low_cond h h0 h1 hlow,L,rfl⟩,rfl,ht⟩,?_⟩
  refine Ev.bind htot ?_
  rw [wrap_id (by omega) (by omega)]
  refine Ev.congr (fun k=>if_pos hlow) ?_
  refine Ev.bind (ev_halves h E) ?_
  simp only [shares_whole.f,Option.bind_some]
  exact Ev.bind hx (Ev.now _)
 ·have hlen:((cl l).map (· / 2)).length ≤ 10:=by rw [List.length_map,cl_length];exact h.ten
  have hhi:=high_cond h h0 h1 hlow
  have hh:=half_cl l
  have hq:mkRat (sI l) 2 = (sI l:Rat) / 2:=mk_frac _ _
  have hden:((E:Rat) - (sI l:Rat) / 2).den ∣ 2:=sub_den_dvd' (E_den E) (by rw [← hq];exact den_dvd _ (by omega)) (by omega)
  rw [tot_cl] at hhi hle
  have hd:(0:Rat) ≤ (E:Rat) - (sI l:Rat) / 2:=by grind
  obtain ⟨x,⟨L,rfl,ht⟩,hx⟩:=ev_equal (cl_half_okC h) hlen hd (by rw [hh];grind) hden
  have hsm:=min_small (cl_half_okC h) hlen hd hden ht
  refine ⟨((cl l).map (· / 2)).map fun c=>c + min c L,⟨fun c=>c / 2 + min (c / 2) L,.inr ⟨by rw [tot_cl];exact hhi,L,rfl⟩,by rw [List.map_map];rfl,?_⟩,?_⟩
  ·have:=tot_add (fun c=>c) (fun c=>min c L) ((cl l).map (· / 2))
   rw [List.map_id'] at this
   rw [this,ht,hh];grind
  ·refine Ev.bind htot ?_
   rw [wrap_id (x:=2 * E) (by omega) (by omega)]
   refine Ev.congr (fun k=>if_neg hlow) ?_
   refine Ev.bind (ev_halves h E) ?_
   simp only [shares_whole.f,Option.bind_some]
   refine Ev.bind htot (Ev.bind (ev_frac (sI l) 2 (by omega) (by omega) (by omega)) ?_)
   have hm:=ev_minus (p:=(E:Rat)) (q:=(sI l:Rat) / 2) ((Sm.int (n:=E) (A:=10000) (by omega)).fits (Sm.int (n:=sI l) (A:=10000) (by omega)).half (by decide) (by decide))
   rw [whole_num,whole_den] at hm
   rw [hq]
   refine Ev.bind hm (Ev.bind hx (Ev.bind (ev_halves h E) ?_))
   rw [encL_length]
   exact piniles_l0 (cl_half_okC h) hlen (g:=fun c=>min c L) hsm ((cl l).map (· / 2)).length 0 (by omega)
theorem ev_prop:∃ x,IsRule 0 (cl l) (E:Rat) x ∧ Ev (fun k=>shares_claims_proportional.f k l E) (encL x):=by
 have hs:=sI_cl h
 have htot:=ev_total h.mem (by have:=h.ten;omega)
 obtain ⟨a,ha⟩:∃ a:Nat,mx 1 (sI l) = (a:Int):=⟨(mx 1 (sI l)).toNat,by unfold mx;split <;> omega⟩
 have ha1:0 < a ∧ a ≤ 10000:=by unfold mx at ha;split at ha <;> omega
 have hev:=prop_l0 h h0 (by omega) ha1.1 ha1.2 l.length 0 (by omega)
 refine ⟨(cl l).map fun c=>c * (E:Rat) / (a:Rat),⟨fun c=>if 0 < tot (cl l) then c * (E:Rat) / tot (cl l) else 0,rfl,?_,?_⟩,?_⟩
 ·refine List.map_congr_left fun c hc=>?_
  obtain ⟨n,hn,rfl⟩:=List.mem_map.1 hc
  by_cases hp:0 < sI l
  ·have hp':0 < tot (cl l):=by rw [tot_cl];exact Rat.intCast_pos.2 hp
   have e:(a:Rat) = tot (cl l):=by
    rw [tot_cl]
    have:(a:Int) = sI l:=by unfold mx at ha;split at ha <;> omega
    rw [← this];push_cast;rfl
   rw [if_pos hp',e]
  ·have hp':¬ 0 < tot (cl l):=by rw [tot_cl];exact fun k=>hp (Rat.intCast_pos.1 k)
   rw [if_neg hp']
   have hE:E = 0:=by omega
   subst hE
   have:((0:Int):Rat) = 0:=rfl
   rw [this,Rat.mul_zero,Rat.div_def,Rat.zero_mul]
 ·by_cases hp:0 < sI l
  ·have e:(a:Rat) = tot (cl l):=by
    rw [tot_cl]
    have:(a:Int) = sI l:=by unfold mx at ha;split at ha <;> omega
    rw [← this];push_cast;rfl
   have hp':0 < tot (cl l):=by rw [tot_cl];exact Rat.intCast_pos.2 hp
   have e2:((cl l).map fun c=>c * (E:Rat) / (a:Rat)) = (cl l).map fun c=>c * ((E:Rat) / (a:Rat)):=List.map_congr_left fun c _=>by
    rw [Rat.div_def,Rat.div_def,Rat.mul_assoc]
   rw [e2,tot_mul (fun c=>c),List.map_id',e,Rat.mul_comm]
   exact Rat.div_mul_cancel (by grind)
  ·have hE:E = 0:=by omega
   subst hE
   have e2:((cl l).map fun c=>c * ((0:Int):Rat) / (a:Rat)) = (cl l).map fun c=>c * 0:=List.map_congr_left fun c _=>by
    have:((0:Int):Rat) = 0:=rfl
    rw [this,Rat.mul_zero,Rat.div_def,Rat.zero_mul]
   rw [e2,tot_mul (fun c=>c),Rat.mul_zero]
   rfl
 ·unfold shares_claims_proportional.f
  refine Ev.bind htot ?_
  rw [ha]
  exact hev
theorem ev_Award {r:Nat} (hr:r ≤ 4):∃ x,IsRule r (cl l) (E:Rat) x ∧ Ev (fun k=>shares_Award.f k (r:Int) l E) (encL x,0):=by
 have hc:clB l E = true:=decide_eq_true ⟨h,h0,h1⟩
 have hf:H.fitL l:=by unfold H.fitL;have:=h.ten;omega
 have hn:=ev_newClaims hf E
 rw [hc] at hn
 unfold shares_Award.f
 obtain rfl | rfl | rfl | rfl | rfl:r = 0 ∨ r = 1 ∨ r = 2 ∨ r = 3 ∨ r = 4:=by omega
 ·obtain ⟨x,h1,h2⟩:=ev_prop h h0 h1
  exact ⟨x,h1,Ev.bind hn (Ev.bind h2 (Ev.now _))⟩
 ·obtain ⟨x,h1,h2⟩:=ev_awards h h0 h1
  exact ⟨x,h1,Ev.bind hn (Ev.bind h2 (Ev.now _))⟩
 ·obtain ⟨x,h1,h2⟩:=ev_losses h h0 h1
  exact ⟨x,h1,Ev.bind hn (Ev.bind h2 (Ev.now _))⟩
 ·obtain ⟨x,h1,h2⟩:=ev_talmud h h0 h1
  exact ⟨x,h1,Ev.bind hn (Ev.bind h2 (Ev.now _))⟩
 ·obtain ⟨x,h1,h2⟩:=ev_piniles h h0 h1
  exact ⟨x,h1,Ev.bind hn (Ev.bind h2 (Ev.now _))⟩
end
end Go.Proofs.Ytjohcjfmlhihbaa.P
set_option linter.unusedSectionVars false
namespace Go.Proofs.Ytjohcjfmlhihbaa.P
open Go Go.RowKit Go.Proofs.Ytjohcjfmlhihbaa.G
open Go.Proofs.YtjohcjfmlhihbaaW.PrintWords Go.Proofs.YtjohcjfmlhihbaaW.PrintMore
theorem awake_now:numnahlaw07_awake.f 60 = some true:=by kernel_rfl
theorem ev_awake:Ev (fun k=>numnahlaw07_awake.f k) true:=Ev.of (fun k=>numnahlaw07_awake.mono k) awake_now
end Go.Proofs.Ytjohcjfmlhihbaa.P
namespace Go.Proofs.Ytjohcjfmlhihbaa.G
open Go.RowKit Go.Proofs.YtjohcjfmlhihbaaW.PrintWords Go.Proofs.YtjohcjfmlhihbaaW.PrintLast Go.Proofs.YtjohcjfmlhihbaaW.PrintMore
set_option maxHeartbeats 8000000
set_option maxRecDepth 100000
attribute [local go_sem] cond_true cond_false fld23_0 fld23_1 fld45_0 fld45_1 fld109_0 fld109_1 fld94_0 fld94_1 max2_int min2_int max_two min_two max_three min_three max_four min_four   -- for this text's walks alone
def numnahlaw07_mod.f (a0:Int) (a1:Int):Option (Int):=if (IntKind.u64.wrap (a1)) = 0 then (none) else (some (wrap64 (Int.tmod (IntKind.u64.wrap (a0)) (IntKind.u64.wrap (a1)))))
theorem numnahlaw07_mod.calls (a0:Int) (a1:Int) (r:Int) (w:World) (h:numnahlaw07_mod.f a0 a1 = some r) :
  Calls Try.prog 29 #[.int .i64 a0,.int .i64 a1] w fun e w'=>e = .returned (.int .i64 r) ∧ Drawn0 w w':=by
 have H:(if (IntKind.u64.wrap (a1)) = 0 then (none) else (some (wrap64 (Int.tmod (IntKind.u64.wrap (a0)) (IntKind.u64.wrap (a1)))))) = some r:=h;clear h;by_cases c3:(IntKind.u64.wrap (a1)) = 0
 ·rw [if_pos c3] at H;exact absurd H (by simp)
 rw [if_neg c3] at H;have b0:((IntKind.u64.wrap (a1)) == 0) = false:=beq_eq_false_iff_ne.mpr c3;have b1:((IntKind.u64.wrap (a1)) != 0) = true:=bne_iff_ne.mpr c3;obtain rfl:=Option.some.inj H;go_enter Try.func29,Try.ntmps29;go_wp2;go_ret;exact ⟨by first | rfl | (simp;done) | (simp [*];done),by repeat (first | exact Drawn0.refl _ | apply Drawn0.step)⟩
end Go.Proofs.Ytjohcjfmlhihbaa.G
namespace Go.Proofs.Ytjohcjfmlhihbaa.G
open Go.RowKit Go.Proofs.YtjohcjfmlhihbaaW.PrintWords Go.Proofs.YtjohcjfmlhihbaaW.PrintLast Go.Proofs.YtjohcjfmlhihbaaW.PrintMore
set_option maxHeartbeats 8000000
set_option maxRecDepth 100000
attribute [local go_sem] cond_true cond_false fld23_0 fld23_1 fld45_0 fld45_1 fld109_0 fld109_1 fld94_0 fld94_1 max2_int min2_int max_two min_two max_three min_three max_four min_four
def numnahlaw07_tame.l0:Nat → List Int → Int → List Int → Int → Int → Option (List Int × Int)
 | 0,_,_,_,_,_=>none
 | k + 1,x0,x1,x6,x7,x8=>if x8 < (x0.length:Int) then (if x8 < 10 then (if 0 ≤ x8 then ((numnahlaw07_mod.f (rd x0 x8) 1001).bind fun b6=>(if x6.length < 17592186044416 then ((some (x6 ++ [b6]:List Int)).bind fun b3=>(if x8 < (b3.length:Int) then (numnahlaw07_tame.l0 k x0 x1 b3 (wrap64 (x7 + (rd b3 x8))) (wrap64 (x8 + 1))) else (none))) else (none))) else (none)) else (if (x6.length:Int) = 0 then (some ((([0]:List Int)),0)) else ((numnahlaw07_mod.f x1 (wrap64 (x7 + 1))).bind fun d3=>(some (x6,d3))))) else (if (x6.length:Int) = 0 then (some ((([0]:List Int)),0)) else ((numnahlaw07_mod.f x1 (wrap64 (x7 + 1))).bind fun d4=>(some (x6,d4))))
def numnahlaw07_tame.f (k:Nat) (l0:List Int) (a1:Int):Option (List Int × Int):=numnahlaw07_tame.l0 k l0 a1 (([]:List Int)) 0 0
theorem numnahlaw07_tame.mono_l:∀ k,(∀ y0 y1 y2 y3 y4,LeO (numnahlaw07_tame.l0 k y0 y1 y2 y3 y4) (numnahlaw07_tame.l0 (k + 1) y0 y1 y2 y3 y4))
 | 0=>fun _ _ _ _ _ r h=>by simp [numnahlaw07_tame.l0] at h
 | k + 1=>by
  have h6:=numnahlaw07_tame.mono_l k;intro y0 y1 y2 y3 y4;unfold numnahlaw07_tame.l0
  repeat' first
  | (with_reducible first | exact h6 _ _ _ _ _ | exact LeO.refl _ | exact LeO.none _ | refine LeO.ite ?_ ?_ | refine LeO.bind ?_ (fun _=>?_))
  | exact LeO.none _ | refine LeO.ite ?_ ?_ | refine LeO.bind ?_ (fun _=>?_)
theorem numnahlaw07_tame.mono:∀ a0 a1 k,LeO (numnahlaw07_tame.f k a0 a1) (numnahlaw07_tame.f (k + 1) a0 a1):=by
 intro a0 a1 k;have h6:=numnahlaw07_tame.mono_l k;unfold numnahlaw07_tame.f
 repeat' first
   | (with_reducible first | exact h6 _ _ _ _ _ | exact LeO.refl _ | exact LeO.none _ | refine LeO.ite ?_ ?_ | refine LeO.bind ?_ (fun _=>?_))
   | exact LeO.none _ | refine LeO.ite ?_ ?_ | refine LeO.bind ?_ (fun _=>?_)
theorem numnahlaw07_tame.calls (k:Nat) (A0:Option Addr) (c0:Nat) (l0:List Int) (a1:Int) (r1:List Int) (r2:Int) (w:World) (i8:Kd.C (Kd.int .i64) w A0 l0.length l0) (i9:l0.length ≤ c0) (h:numnahlaw07_tame.f k l0 a1 = some (r1,r2)) :
  Calls Try.prog 25 #[.slice A0 l0.length c0,.int .i64 a1] w fun e w'=>∃ j5:Value,e = .returned (.tuple #[j5,.int .i64 r2]) ∧ Kd.R (Kd.int .i64) 3 w' w.heap.size (fun _=>True) j5 r1 ∧ Below w.heap.size w w':=by
 have l9:=A_ i8;have n9:=A_ i9;clear i8 i9;have HB:=A_ (Below.refl w.heap.size w);have H:(numnahlaw07_tame.l0 k l0 a1 (([]:List Int)) 0 0) = some (r1,r2):=h;clear h;obtain ⟨h7,b9⟩:∃ y_:List Int,y_ = (([]:List Int)):=⟨_,rfl⟩
 rw [← b9] at H;have d5:=A_ b9;clear b9;have H':=A_ H;clear H;go_enter Try.func25,Try.ntmps25;go_wp2_with (first | ((with_reducible refine gate_dst (N:=9) rfl ?_);refine Kd.R_lit (Kd.int .i64) _ 3 ?hg (N:=9) ?hd (xs:=([]:List Int)) (inner:=[]) (ok:=fun _=>True) (okp:=fun _=>True) ?hr ?hp (fun _ hk=>hk) trivial (Below.refl _ _) (Nat.le_refl _) (by simp) ?_;(case hd=>rfl);(case hg=>rfl);(case hr=>first | (go_simp;done) | (go_simp;rfl));(case hp=>exact (Reps.none _ _));intro m0 w3 e4 hb hg_ hnew_;clear hg_ hnew_;(first | rw [← d5.out] at e4 | (simp only [Int.reduceToNat] at e4;rw [← d5.out] at e4));have e5:=A_ (Kd.R_lower e4 (below_size (bl HB)));replace HB:=bB HB hb;clear hb e4));go_loopg [6,7,8] k (fun kq v6 v7 v8 w'=>∃ (b0:List Int) (b4:Int) (b1:Int),v7 = .int .i64 b4 ∧ v8 = .int .i64 b1 ∧ Aside0 (numnahlaw07_tame.l0 kq l0 a1 b0 b4 b1 = some (r1,r2)) ∧ Aside0 (kq ≤ k) ∧ Aside0 (Kd.R (Kd.int .i64) 3 w' w.heap.size (fun _=>True) v6 b0) ∧ Aside0 (Below w.heap.size w w'))
 case atStart=>exact ⟨(h7),(0),(0),(by first | rfl | (simp;done) | (simp [*];done)),(by first | rfl | (simp;done) | (simp [*];done)),H',⟨Nat.le_refl _⟩,⟨by (with_reducible repeat (first | apply Kd.R_alloc | apply Kd.R_drewN | apply Kd.R_drew));exact e5.out⟩,⟨bl HB⟩⟩
 case round =>
  clear H';obtain ⟨b0,b4,b1,rfl,rfl,HA,j7,b2,HB⟩:=hrel
  cases gk with
  | zero=>exact absurd HA.out (by simp [numnahlaw07_tame.l0])
  | succ k1 =>
   have H:=HA.out;clear HA;simp only [numnahlaw07_tame.l0] at H;by_cases c5:b1 < (l0.length:Int)
   case neg =>
    rw [if_neg c5] at H;have h8:=decide_eq_false c5;clear c5;by_cases d6:(b0.length:Int) = 0
    case neg =>
     rw [if_neg d6] at H;have e6:((b0.length:Int) == 0) = false:=beq_eq_false_iff_ne.mpr d6;have e7:((b0.length:Int) != 0) = true:=bne_iff_ne.mpr d6;have j8:¬ (b0 = []):=fun h_=>d6 (by rw [h_];rfl)
     replace H:=Option.bind_eq_some_iff.mp H;obtain ⟨d4,e8,H⟩:=H;replace H:(some (b0,d4)) = some (r1,r2):=H;have m1:=A_ e8;clear e8;simp only [Option.some.injEq,Prod.mk.injEq] at H;obtain ⟨rfl,rfl⟩:=H;obtain ⟨m2,m3,h9⟩:=Kd.R_slice b2.out;subst h9;go_wp2_with (first | ((with_reducible refine gate_callee (f:=29) rfl ?_);refine gL (some 42) Try.func29 #[.int .i64 a1,.int .i64 (wrap64 (b4 + 1))] ?_;(with_reducible refine (numnahlaw07_mod.calls a1 (wrap64 (b4 + 1)) d4 _ m1.out).mono ?_);rintro e w' ⟨rfl,⟨nd,rfl⟩⟩;refine ⟨_,rfl,?_⟩));go_ret2;exact ⟨_,by first | rfl | (simp [errW_none,errW_some] <;> rfl) | (simp [*,errW_none,errW_some] <;> rfl),by (with_reducible repeat (first | apply Kd.R_alloc | apply Kd.R_drewN | apply Kd.R_drew));exact b2.out,bl HB⟩
    rw [if_pos d6] at H;have e6:((b0.length:Int) == 0) = true:=beq_iff_eq.mpr d6;have e7:((b0.length:Int) != 0) = false:=bne_eq_false_iff_eq.mpr d6;clear d6;obtain ⟨m4,c1⟩:∃ y_:List Int,y_ = (([0]:List Int)):=⟨_,rfl⟩
    rw [← c1] at H;have d7:=A_ c1;clear c1;simp only [Option.some.injEq,Prod.mk.injEq] at H;obtain ⟨rfl,rfl⟩:=H;obtain ⟨m5,m6,i0⟩:=Kd.R_slice b2.out;subst i0;go_wp2_with (first | ((with_reducible refine gate_dst (N:=37) rfl ?_);refine Kd.R_lit (Kd.int .i64) _ 3 ?hg (N:=37) ?hd (xs:=([0]:List Int)) (inner:=[.int .i64 0]) (ok:=fun _=>True) (okp:=fun _=>True) ?hr ?hp (fun _ hk=>hk) trivial (Below.refl _ _) (Nat.le_refl _) (by simp) ?_;(case hd=>rfl);(case hg=>rfl);(case hr=>first | (go_simp;done) | (go_simp;rfl));(case hp=>exact (Reps.one (show Kd.M (Kd.int .i64) _ _ _ 0 [.int .i64 0] from rfl) (Reps.none _ _)));intro m7 o0 b7 hb hg_ hnew_;clear hg_ hnew_;(first | rw [← d7.out] at b7 | (simp only [Int.reduceToNat] at b7;rw [← d7.out] at b7));have e9:=A_ (Kd.R_lower (Kd.R_new' b7 (Kd.R_lt (rs b2))) (below_size (bl HB)));replace b2:=A_ (Kd.R_elder' (rs b2) (Kd.R_base b7) hb);replace HB:=bB HB hb;clear hb b7));go_ret2;exact ⟨_,by first | rfl | (simp [errW_none,errW_some] <;> rfl) | (simp [*,errW_none,errW_some] <;> rfl),by (with_reducible repeat (first | apply Kd.R_alloc | apply Kd.R_drewN | apply Kd.R_drew));exact Kd.R_mono e9.out (fun _ hk=>trivial),bl HB⟩
   rw [if_pos c5] at H;have h8:=decide_eq_true c5;clear c5;by_cases c6:b1 < 10
   case neg =>
    rw [if_neg c6] at H;have i1:=decide_eq_false c6;clear c6;by_cases d8:(b0.length:Int) = 0
    case neg =>
     rw [if_neg d8] at H;have h0:((b0.length:Int) == 0) = false:=beq_eq_false_iff_ne.mpr d8;have h1:((b0.length:Int) != 0) = true:=bne_iff_ne.mpr d8;have j9:¬ (b0 = []):=fun h_=>d8 (by rw [h_];rfl)
     replace H:=Option.bind_eq_some_iff.mp H;obtain ⟨d3,h2,H⟩:=H;replace H:(some (b0,d3)) = some (r1,r2):=H;have m8:=A_ h2;clear h2;simp only [Option.some.injEq,Prod.mk.injEq] at H;obtain ⟨rfl,rfl⟩:=H;obtain ⟨m9,n0,i2⟩:=Kd.R_slice b2.out;subst i2;go_wp2_with (first | ((with_reducible refine gate_callee (f:=29) rfl ?_);refine gL (some 42) Try.func29 #[.int .i64 a1,.int .i64 (wrap64 (b4 + 1))] ?_;(with_reducible refine (numnahlaw07_mod.calls a1 (wrap64 (b4 + 1)) d3 _ m8.out).mono ?_);rintro e w' ⟨rfl,⟨nd,rfl⟩⟩;refine ⟨_,rfl,?_⟩));go_ret2;exact ⟨_,by first | rfl | (simp [errW_none,errW_some] <;> rfl) | (simp [*,errW_none,errW_some] <;> rfl),by (with_reducible repeat (first | apply Kd.R_alloc | apply Kd.R_drewN | apply Kd.R_drew));exact b2.out,bl HB⟩
    rw [if_pos d8] at H;have h0:((b0.length:Int) == 0) = true:=beq_iff_eq.mpr d8;have h1:((b0.length:Int) != 0) = false:=bne_eq_false_iff_eq.mpr d8;clear d8;obtain ⟨n1,d0⟩:∃ y_:List Int,y_ = (([0]:List Int)):=⟨_,rfl⟩
    rw [← d0] at H;have d9:=A_ d0;clear d0;simp only [Option.some.injEq,Prod.mk.injEq] at H;obtain ⟨rfl,rfl⟩:=H;obtain ⟨n2,n3,i3⟩:=Kd.R_slice b2.out;subst i3;go_wp2_with (first | ((with_reducible refine gate_dst (N:=37) rfl ?_);refine Kd.R_lit (Kd.int .i64) _ 3 ?hg (N:=37) ?hd (xs:=([0]:List Int)) (inner:=[.int .i64 0]) (ok:=fun _=>True) (okp:=fun _=>True) ?hr ?hp (fun _ hk=>hk) trivial (Below.refl _ _) (Nat.le_refl _) (by simp) ?_;(case hd=>rfl);(case hg=>rfl);(case hr=>first | (go_simp;done) | (go_simp;rfl));(case hp=>exact (Reps.one (show Kd.M (Kd.int .i64) _ _ _ 0 [.int .i64 0] from rfl) (Reps.none _ _)));intro n4 o1 b8 hb hg_ hnew_;clear hg_ hnew_;(first | rw [← d9.out] at b8 | (simp only [Int.reduceToNat] at b8;rw [← d9.out] at b8));have h3:=A_ (Kd.R_lower (Kd.R_new' b8 (Kd.R_lt (rs b2))) (below_size (bl HB)));replace b2:=A_ (Kd.R_elder' (rs b2) (Kd.R_base b8) hb);replace HB:=bB HB hb;clear hb b8));go_ret2;exact ⟨_,by first | rfl | (simp [errW_none,errW_some] <;> rfl) | (simp [*,errW_none,errW_some] <;> rfl),by (with_reducible repeat (first | apply Kd.R_alloc | apply Kd.R_drewN | apply Kd.R_drew));exact Kd.R_mono h3.out (fun _ hk=>trivial),bl HB⟩
   rw [if_pos c6] at H;have i1:=decide_eq_true c6;clear c6;replace H:=gd H;obtain ⟨c7,H⟩:=H;have n5:=decide_eq_true c7;clear c7;replace H:=Option.bind_eq_some_iff.mp H;obtain ⟨b6,l5,H⟩:=H;replace H:(if b0.length < 17592186044416 then ((some (b0 ++ [b6]:List Int)).bind fun b3=>(if b1 < (b3.length:Int) then (numnahlaw07_tame.l0 k1 l0 a1 b3 (wrap64 (b4 + (rd b3 b1))) (wrap64 (b1 + 1))) else (none))) else (none)) = some (r1,r2):=H;have A8:=A_ l5;clear l5;replace H:=gd H;obtain ⟨c9,H⟩:=H;have i4:=A_ c9;clear c9;obtain ⟨b3,d1⟩:∃ y_:List Int,y_ = (b0 ++ [b6]):=⟨_,rfl⟩
   rw [← d1] at H;have h4:=A_ d1;clear d1;replace H:=gd H;obtain ⟨c10,H⟩:=H;have l6:=decide_eq_true c10;clear c10;have H':=A_ H;clear H;have e0:0 ≤ (b1:Int):=of_decide_eq_true (by first | (with_reducible assumption) | assumption);have e1:b1 < (l0.length:Int):=of_decide_eq_true (by first | (with_reducible assumption) | assumption);obtain ⟨l7,i5,b5⟩:=Kd.at_int l9.out b1 e0 e1
   cases i5;replace b5:=(HB.out.cell (World.block_lt_of_cell? w _ b5)).trans b5;replace e0:=eq_true e0;replace e1:=eq_true e1;go_wp2_with (first | ((with_reducible refine gate_callee (f:=29) rfl ?_);refine gL (some 25) Try.func29 #[.int .i64 (rd l0 b1),.int .i64 1001] ?_;(with_reducible refine (numnahlaw07_mod.calls (rd l0 b1) 1001 b6 _ A8.out).mono ?_);rintro e w' ⟨rfl,⟨nd,rfl⟩⟩;refine ⟨_,rfl,?_⟩) | ((with_reducible refine gate_builtin (b:=.append) (xs:=#[.tmp 20,.tmp 26]) rfl ?_);at_builtin;refine Kd.R_append (Kd.int .i64) (w0:=w) w.heap.size rfl (.tmp 20) (.tmp 26) 28 3 (.int .i64 0) 8 rfl Try.underlying28 info3 rfl (by decide) (by omega) u6 b0 b6 [.int .i64 b6] (fun _=>True) (fun _=>False) rfl rfl ?aP (fun _ hk=>hk.elim) ?aF ?aO ?aB ?aS ?aL ?_;(case aP=>exact rfl);(case aB=>exact (bl HB));(case aF=>exact (fun _ _=>trivial));(case aO=>exact (rs b2));(case aS=>exact (below_size (bl HB)));(case aL=>have:=i4.out;omega);intro n6 o2 ho hb hg hat;rw [← h4.out] at ho;have d2:=A_ ho;replace HB:=A_ hb;clear b2;clear ho hb hg hat;obtain ⟨n7,n8,i6⟩:=Kd.R_slice d2.out;subst i6;have e2:0 ≤ (b1:Int):=of_decide_eq_true (by first | (with_reducible assumption) | assumption);have e3:b1 < (b3.length:Int):=of_decide_eq_true (by first | (with_reducible assumption) | assumption);obtain ⟨l8,i7,h5⟩:=Kd.at_int (Kd.R_reads' d2.out).2.2 b1 e2 e3;cases i7;replace e2:=eq_true e2;replace e3:=eq_true e3));go_roundg k1
   case measure=>have:=j7.out;omega
   case rel=>exact ⟨(b3),(wrap64 (b4 + (rd b3 b1))),(wrap64 (b1 + 1)),(by first | rfl | (simp;done) | (simp [*];done)),(by first | rfl | (simp;done) | (simp [*];done)),H',⟨by have:=j7.out;omega⟩,⟨by (with_reducible repeat (first | apply Kd.R_alloc | apply Kd.R_drewN | apply Kd.R_drew));exact d2.out⟩,⟨bl HB⟩⟩
end Go.Proofs.Ytjohcjfmlhihbaa.G
