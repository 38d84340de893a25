/- Several texts, joined. -/
import Derived.Test.YtjohcjfmlhihbaaQLoads1
set_option linter.unusedVariables false
set_option linter.unusedSimpArgs false
namespace Go.Proofs.Ytjohcjfmlhihbaa.G
open Go.RowKit Go.Proofs.YtjohcjfmlhihbaaW.PrintWords Go.Proofs.YtjohcjfmlhihbaaW.PrintLast Go.Proofs.YtjohcjfmlhihbaaW.PrintMore
set_option maxHeartbeats 8000000
set_option maxRecDepth 100000
attribute [local go_sem] cond_true cond_false fld23_0 fld23_1 fld45_0 fld45_1 fld109_0 fld109_1 fld94_0 fld94_1 max2_int min2_int max_two min_two max_three min_three max_four min_four   -- for this text's walks alone
attribute [local go_sem high] eqA51
def contains118.f (k:Nat) (l0:List (S23)):Option (Bool):=(index118.f k l0).bind fun b0=>(some (decide (b0 ≥ 0)))
theorem contains118.mono:∀ a0 k,LeO (contains118.f k a0) (contains118.f (k + 1) a0):=by
 intro a0 k
 unfold contains118.f
 repeat' first
   | (with_reducible exact index118.mono _ _)
   | (with_reducible exact LeO.refl _)
   | (with_reducible exact LeO.none _)
   | (with_reducible refine LeO.ite ?_ ?_)
   | (with_reducible refine LeO.bind ?_ (fun _=>?_))
   | exact index118.mono _ _
   | exact LeO.none _
   | refine LeO.ite ?_ ?_
   | refine LeO.bind ?_ (fun _=>?_)
theorem contains118.calls (k:Nat) (A0:Option Addr) (c0:Nat) (l0:List (S23)) (r:Bool) (w:World) (b1:Kd.C k23 w A0 l0.length l0) (b2:l0.length ≤ c0) (h:contains118.f k l0 = some r) :
  Calls Try.prog 110 #[.slice A0 l0.length c0,.func (.func 118) #[] #[]] w fun e w'=>e = .returned (.bool r) ∧ Below w.heap.size w w':=by
 have b5:=Aside0.mk b1
 have b6:=Aside0.mk b2
 clear b1 b2
 have HB:=Aside0.mk (Below.refl w.heap.size w)
 have H:((index118.f k l0).bind fun b0=>(some (decide (b0 ≥ 0)))) = some r:=h
 clear h
 replace H:=Option.bind_eq_some_iff.mp H
 obtain ⟨b0,b3,H⟩:=H
 replace H:(some (decide (b0 ≥ 0))) = some r:=H
 have A2:=Aside0.mk b3
 clear b3
 obtain rfl:=Option.some.inj H
 go_enter Try.func110,Try.ntmps110
 go_wp2_with (first | ((with_reducible refine gate_callee (f:=126) rfl ?_);refine goesL_ (some 7) rfl rfl Try.func126 (by kernel_rfl) rfl #[.slice A0 l0.length c0,.func (.func 118) #[] #[]] rfl (by (try simp only [List.map_toArray,List.map_cons,List.map_nil]);first | done | rfl | (simp only [List.length_drop,List.length_take];rfl)) ?_;(with_reducible refine (index118.calls k _ _ l0 b0 _ ?side1 ?side2 A2.out).mono ?_);(case side1=>repeat (first | exact b5.out | (with_reducible refine Kd.C_alloc ?_ _) | (with_reducible refine Kd.C_drewN ?_ _) | (with_reducible refine Kd.C_drew ?_)));(case side2=>exact b6.out);rintro e w3 ⟨rfl,hb⟩;refine ⟨_,rfl,?_⟩;have b4:=Aside0.mk (below_step (by repeat (first | (with_reducible first | exact HB.out | apply below_alloc | apply pw_below_drewN | apply below_drew1) | exact HB.out)) hb);clear HB;have HB:=b4;clear b4;(try clear hb)))
 go_ret
 exact ⟨by first | rfl | (simp [errW_none,errW_some] <;> rfl) | (simp [*,errW_none,errW_some] <;> rfl),by repeat (first | (with_reducible first | exact HB.out | apply below_alloc | apply pw_below_drewN | apply below_drew1) | exact HB.out)⟩
end Go.Proofs.Ytjohcjfmlhihbaa.G
namespace Go.Proofs.Ytjohcjfmlhihbaa.G
open Go.RowKit Go.Proofs.YtjohcjfmlhihbaaW.PrintWords Go.Proofs.YtjohcjfmlhihbaaW.PrintLast Go.Proofs.YtjohcjfmlhihbaaW.PrintMore
set_option maxHeartbeats 8000000
set_option maxRecDepth 100000
attribute [local go_sem] cond_true cond_false fld23_0 fld23_1 fld45_0 fld45_1 fld109_0 fld109_1 fld94_0 fld94_1 max2_int min2_int max_two min_two max_three min_three max_four min_four   -- for this text's walks alone
attribute [local go_sem high] eqA51
def shares_net_areRates.f (k:Nat) (b3:List Int) (b2:List (S45)) (l1:List (S23)):Option (Bool):=if (l1.length:Int) = (b2.length:Int) then ((contains118.f k l1).bind fun b4=>(some (!b4))) else (some false)
theorem shares_net_areRates.mono:∀ a0 a1 a2 k,LeO (shares_net_areRates.f k a0 a1 a2) (shares_net_areRates.f (k + 1) a0 a1 a2):=by
 intro a0 a1 a2 k
 unfold shares_net_areRates.f
 repeat' first
   | (with_reducible exact contains118.mono _ _)
   | (with_reducible exact LeO.refl _)
   | (with_reducible exact LeO.none _)
   | (with_reducible refine LeO.ite ?_ ?_)
   | (with_reducible refine LeO.bind ?_ (fun _=>?_))
   | exact contains118.mono _ _
   | exact LeO.none _
   | refine LeO.ite ?_ ?_
   | refine LeO.bind ?_ (fun _=>?_)
theorem shares_net_areRates.calls (k:Nat) (b6:Option Addr) (b7:Nat) (b3:List Int) (b8:Option Addr) (b9:Nat) (b2:List (S45)) (A1:Option Addr) (c1:Nat) (l1:List (S23)) (r:Bool) (w:World) (c0:Kd.C (Kd.int .i64) w b6 b3.length b3) (d0:b3.length ≤ b7) (d1:Kd.C k45 w b8 b2.length b2) (d2:b2.length ≤ b9) (e9:Kd.C k23 w A1 l1.length l1) (h0:l1.length ≤ c1) (h:shares_net_areRates.f k b3 b2 l1 = some r) :
  Calls Try.prog 89 #[.agg #[.slice b6 b3.length b7,.slice b8 b2.length b9],.slice A1 l1.length c1] w fun e w'=>e = .returned (.bool r) ∧ Below w.heap.size w w':=by
 have h1:=Try.underlying109
 have h2:=Aside0.mk c0
 have h3:=Aside0.mk d0
 clear c0 d0
 have h4:=Aside0.mk d1
 have h5:=Aside0.mk d2
 clear d1 d2
 have h7:=Aside0.mk e9
 have h8:=Aside0.mk h0
 clear e9 h0
 have HB:=Aside0.mk (Below.refl w.heap.size w)
 have H:(if (l1.length:Int) = (b2.length:Int) then ((contains118.f k l1).bind fun b4=>(some (!b4))) else (some false)) = some r:=h
 clear h
 by_cases c3:(l1.length:Int) = (b2.length:Int)
 case neg =>
  rw [if_neg c3] at H
  have d8:((l1.length:Int) == (b2.length:Int)) = false:=beq_eq_false_iff_ne.mpr c3
  have d9:((l1.length:Int) != (b2.length:Int)) = true:=bne_iff_ne.mpr c3
  have e0:(l1.length == b2.length) = false:=by first | simpa using c3 | (simp at c3 ⊢;omega)
  obtain rfl:=Option.some.inj H
  go_enter Try.func89,Try.ntmps89
  go_wp2_with (first | ((with_reducible refine gate_dst (N:=2) rfl ?_);refine box_event ?hg (N:=2) ?hd (cs:=#[.slice b6 b3.length b7,.slice b8 b2.length b9]) (t:=109) ?hr ?_;(case hd=>rfl);(case hg=>rfl);(case hr=>first | (go_simp;done) | (go_simp;rfl));intro b1 hg w8 hbox hb;have d3:=Aside0.mk (below_step (by repeat (first | (with_reducible first | exact HB.out | apply below_alloc | apply pw_below_drewN | apply below_drew1) | exact HB.out)) hb);have d4:=Aside0.mk (hbox);have d6:=Aside0.mk ((by rw [hg];exact (below_size (by repeat (first | (with_reducible first | exact HB.out | apply below_alloc | apply pw_below_drewN | apply below_drew1) | exact HB.out))):w.heap.size ≤ b1));have d7:=Aside0.mk ((by rw [hg];exact (below_size (by repeat (first | (with_reducible first | exact HB.out | apply below_alloc | apply pw_below_drewN | apply below_drew1) | exact HB.out))):w.heap.size ≤ b1));clear HB;have HB:=d3;have b0:=d4;have d5:=d6;have b5:=d7;clear d3 d4 d6 d7;clear hb hbox hg;have e1:w8.cell? ⟨b1,0,none⟩ = some (.slice b6 b3.length b7):=(blk_cell b0.out 0).trans rfl;have e2:w8.cell? ⟨b1,1,none⟩ = some (.slice b8 b2.length b9):=(blk_cell b0.out 1).trans rfl;have e3:=blk_frozen b0.out 0;have e4:=blk_frozen b0.out 1))
  go_ret
  exact ⟨by first | rfl | (simp [errW_none,errW_some] <;> rfl) | (simp [*,errW_none,errW_some] <;> rfl),by repeat (first | (with_reducible first | exact HB.out | apply below_alloc | apply pw_below_drewN | apply below_drew1 | refine below_set ?_ b5.out) | exact HB.out)⟩
 rw [if_pos c3] at H
 have d8:((l1.length:Int) == (b2.length:Int)) = true:=beq_iff_eq.mpr c3
 have d9:((l1.length:Int) != (b2.length:Int)) = false:=bne_eq_false_iff_eq.mpr c3
 have e0:(l1.length == b2.length) = true:=by first | simpa using c3 | (simp at c3 ⊢;omega)
 clear c3
 replace H:=Option.bind_eq_some_iff.mp H
 obtain ⟨b4,h6,H⟩:=H
 replace H:(some (!b4)) = some r:=H
 have A4:=Aside0.mk h6
 clear h6
 obtain rfl:=Option.some.inj H
 go_enter Try.func89,Try.ntmps89
 go_wp2_with (first | ((with_reducible refine gate_dst (N:=2) rfl ?_);refine box_event ?hg (N:=2) ?hd (cs:=#[.slice b6 b3.length b7,.slice b8 b2.length b9]) (t:=109) ?hr ?_;(case hd=>rfl);(case hg=>rfl);(case hr=>first | (go_simp;done) | (go_simp;rfl));intro b1 hg w5 hbox hb;have d3:=Aside0.mk (below_step (by repeat (first | (with_reducible first | exact HB.out | apply below_alloc | apply pw_below_drewN | apply below_drew1) | exact HB.out)) hb);have d4:=Aside0.mk (hbox);have d6:=Aside0.mk ((by rw [hg];exact (below_size (by repeat (first | (with_reducible first | exact HB.out | apply below_alloc | apply pw_below_drewN | apply below_drew1) | exact HB.out))):w.heap.size ≤ b1));have d7:=Aside0.mk ((by rw [hg];exact (below_size (by repeat (first | (with_reducible first | exact HB.out | apply below_alloc | apply pw_below_drewN | apply below_drew1) | exact HB.out))):w.heap.size ≤ b1));clear HB;have HB:=d3;have b0:=d4;have d5:=d6;have b5:=d7;clear d3 d4 d6 d7;clear hb hbox hg;have e5:w5.cell? ⟨b1,0,none⟩ = some (.slice b6 b3.length b7):=(blk_cell b0.out 0).trans rfl;have e6:w5.cell? ⟨b1,1,none⟩ = some (.slice b8 b2.length b9):=(blk_cell b0.out 1).trans rfl;have e7:=blk_frozen b0.out 0;have e8:=blk_frozen b0.out 1) | (go_at_call 110;(with_reducible refine (contains118.calls k _ _ l1 b4 _ ?side1 ?side2 A4.out).mono ?_);(case side1=>repeat (first | exact (Kd.C_below h7.out HB.out) | (with_reducible refine Kd.C_alloc ?_ _) | (with_reducible refine Kd.C_drewN ?_ _) | (with_reducible refine Kd.C_drew ?_)));(case side2=>exact h8.out);rintro e w7 ⟨rfl,hb⟩;have d3:=Aside0.mk (blk_below (g:=b1) (o:=.cells #[.slice b6 b3.length b7,.slice b8 b2.length b9] 109 (0,0)) (by (with_reducible repeat (first | refine blk_drewN ?_ _ | refine blk_drew ?_ | refine blk_alloc ?_ _));exact b0.out) hb);have d4:=Aside0.mk (below_step (by repeat (first | (with_reducible first | exact HB.out | apply below_alloc | apply pw_below_drewN | apply below_drew1 | refine below_set ?_ b5.out) | exact HB.out)) hb);clear b0;clear HB;have b0:=d3;have HB:=d4;clear d3 d4;(try clear hb)))
 go_ret
 exact ⟨by first | rfl | (simp [errW_none,errW_some] <;> rfl) | (simp [*,errW_none,errW_some] <;> rfl),by repeat (first | (with_reducible first | exact HB.out | apply below_alloc | apply pw_below_drewN | apply below_drew1 | refine below_set ?_ b5.out) | exact HB.out)⟩
end Go.Proofs.Ytjohcjfmlhihbaa.G
namespace Go.Proofs.Ytjohcjfmlhihbaa.G
open Go.RowKit Go.Proofs.YtjohcjfmlhihbaaW.PrintWords Go.Proofs.YtjohcjfmlhihbaaW.PrintLast Go.Proofs.YtjohcjfmlhihbaaW.PrintMore
set_option maxHeartbeats 8000000
set_option maxRecDepth 100000
attribute [local go_sem] cond_true cond_false fld23_0 fld23_1 fld45_0 fld45_1 fld109_0 fld109_1 fld94_0 fld94_1 max2_int min2_int max_two min_two max_three min_three max_four min_four
attribute [local go_sem high] eqA51
def shares_net_loads.l0:Nat → List (S23) → List (S23) → Int → Int → List Int → List (S45) → Option ((List (S23)))
 | 0,_,_,_,_,_,_=>none
 | k + 1,x1,x5,x9,e8,b5,b6=>if e8 < x9 then ((shares_net_load.f k b5 b6 x1 e8).bind fun d4=>(if x5.length < 8796093022208 then (shares_net_loads.l0 k x1 (x5 ++ [(⟨d4.1,d4.2⟩:S23)]) x9 (wrap64 (e8 + 1)) b5 b6) else (none))) else (some x5)
def shares_net_loads.f (k:Nat) (b1:List Int) (b2:List (S45)) (l1:List (S23)):Option ((List (S23))):=shares_net_loads.l0 k l1 ([]:List (S23)) (b1.length:Int) 0 b1 b2
theorem shares_net_loads.mono_l:∀ k,(∀ y0 y1 y2 y3 y4 y5,LeO (shares_net_loads.l0 k y0 y1 y2 y3 y4 y5) (shares_net_loads.l0 (k + 1) y0 y1 y2 y3 y4 y5))
 | 0=>fun _ _ _ _ _ _ r h=>by simp [shares_net_loads.l0] at h
 | k + 1=>by
  have e9:=shares_net_loads.mono_l k
  intro y0 y1 y2 y3 y4 y5
  unfold shares_net_loads.l0
  repeat' first
  | (with_reducible first | exact e9 _ _ _ _ _ _ | exact shares_net_load.mono _ _ _ _ _ | exact LeO.refl _ | exact LeO.none _ | refine LeO.ite ?_ ?_ | refine LeO.bind ?_ (fun _=>?_))
  | exact LeO.none _ | refine LeO.ite ?_ ?_ | refine LeO.bind ?_ (fun _=>?_)
theorem shares_net_loads.mono:∀ a0 a1 a2 k,LeO (shares_net_loads.f k a0 a1 a2) (shares_net_loads.f (k + 1) a0 a1 a2):=by
 intro a0 a1 a2 k
 have e9:=shares_net_loads.mono_l k
 unfold shares_net_loads.f
 repeat' first
   | (with_reducible first | exact e9 _ _ _ _ _ _ | exact shares_net_load.mono _ _ _ _ _ | exact LeO.refl _ | exact LeO.none _ | refine LeO.ite ?_ ?_ | refine LeO.bind ?_ (fun _=>?_))
   | exact LeO.none _ | refine LeO.ite ?_ ?_ | refine LeO.bind ?_ (fun _=>?_)
theorem shares_net_loads.calls (k:Nat) (b7:Option Addr) (b8:Nat) (b1:List Int) (b9:Option Addr) (c0:Nat) (b2:List (S45)) (A1:Option Addr) (c1:Nat) (l1:List (S23)) (r:List (S23)) (w:World) (d6:Kd.C (Kd.int .i64) w b7 b1.length b1) (d7:b1.length ≤ b8) (d8:Kd.C k45 w b9 b2.length b2) (d9:b2.length ≤ c0) (i1:Kd.C k23 w A1 l1.length l1) (i2:l1.length ≤ c1) (h:shares_net_loads.f k b1 b2 l1 = some r) :
  Calls Try.prog 90 #[.agg #[.slice b7 b1.length b8,.slice b9 b2.length c0],.slice A1 l1.length c1] w fun e w'=>∃ i3:Value,e = .returned (i3) ∧ Kd.R k23 23 w' w.heap.size (fun _=>True) i3 r ∧ Below w.heap.size w w':=by
 have i4:=Try.underlying109
 have e3:=A_ d6
 have e4:=A_ d7
 clear d6 d7
 have e5:=A_ d8
 have e6:=A_ d9
 clear d8 d9
 have i7:=A_ i1
 have i8:=A_ i2
 clear i1 i2
 have HB:=A_ (Below.refl w.heap.size w)
 have H:(shares_net_loads.l0 k l1 ([]:List (S23)) (b1.length:Int) 0 b1 b2) = some r:=h
 clear h
 have H':=A_ H
 clear H
 go_enter Try.func90,Try.ntmps90
 go_wp2_with (first | ((with_reducible refine gate_dst (N:=2) rfl ?_);refine bx 2 #[.slice b7 b1.length b8,.slice b9 b2.length c0] 109 ?_;intro b3 hg w3 hbox hb;have b0:=A_ hbox;have e0:=gw hg HB;have h0:=e0;replace HB:=bB HB hb;clear hb hbox hg;have h1:w3.cell? ⟨b3,0,none⟩ = some (.slice b7 b1.length b8):=cz b0 0;have h2:w3.cell? ⟨b3,1,none⟩ = some (.slice b9 b2.length c0):=cz b0 1;have h3:=blk_frozen b0.out 0;have h4:=blk_frozen b0.out 1))
 go_loopg [5,10] k (fun kq v5 i9 w'=>∃ (d5:List (S23)) (b4:Int),i9 = .int .i64 b4 ∧ Aside0 (shares_net_loads.l0 kq l1 d5 (b1.length:Int) b4 b1 b2 = some r) ∧ Aside0 (kq ≤ k) ∧ Aside0 (Kd.R k23 23 w' w.heap.size (fun _=>True) v5 d5) ∧ Aside0 (w'.heap[b3]? = some (.cells #[(.slice b7 b1.length b8),(.slice b9 b2.length c0)] 109 (0,0))) ∧ Aside0 (Below w.heap.size w w'))
 case atStart=>exact ⟨(([]:List (S23))),(0),(by first | rfl | (simp;done) | (simp [*];done)),H',⟨Nat.le_refl _⟩,⟨by first | exact Kd.R_nil _ _ _ _ _ | exact Kd.N_nil _ _ _ _ _ | exact Kd.V_nil _ _ _ _ _ | exact Kd.Q_nil _ _ _ _ _ | exact Kd.S_nil _ _ _ _ _⟩,⟨by (with_reducible repeat (first | refine blk_drewN ?_ _ | refine blk_drew ?_ | refine blk_alloc ?_ _));exact b0.out⟩,⟨bl HB⟩⟩
 case round =>
  clear H'
  obtain ⟨d5,b4,rfl,HA,i5,d3,b0,HB⟩:=hrel
  cases gk with
  | zero=>exact absurd HA.out (by simp [shares_net_loads.l0])
  | succ k1 =>
   have H:=HA.out
   clear HA
   simp only [shares_net_loads.l0] at H
   by_cases c5:b4 < (b1.length:Int)
   case neg =>
    rw [if_neg c5] at H
    have h5:=decide_eq_false c5
    clear c5
    obtain rfl:=Option.some.inj H
    go_wp2
    go_ret
    exact ⟨_,by first | rfl | (simp [errW_none,errW_some] <;> rfl) | (simp [*,errW_none,errW_some] <;> rfl),by (with_reducible repeat (first | apply Kd.R_alloc | apply Kd.R_drewN | apply Kd.R_drew));exact d3.out,bl HB⟩
   rw [if_pos c5] at H
   have h5:=decide_eq_true c5
   clear c5
   replace H:=Option.bind_eq_some_iff.mp H
   obtain ⟨⟨d0,d1⟩,A60,H⟩:=H
   dsimp only at H
   have A6:=A_ A60
   clear A60
   replace H:=gd H
   obtain ⟨c7,H⟩:=H
   have h6:=A_ c7
   clear c7
   obtain ⟨e7,d2⟩:∃ y_:List (S23),y_ = (d5 ++ [(⟨d0,d1⟩:S23)]):=⟨_,rfl⟩
   rw [← d2] at H
   have e1:=A_ d2
   clear d2
   have H':=A_ H
   clear H
   have h7:wr.cell? ⟨b3,0,none⟩ = some (.slice b7 b1.length b8):=cz b0 0
   have h8:wr.cell? ⟨b3,1,none⟩ = some (.slice b9 b2.length c0):=cz b0 1
   have h9:=blk_frozen b0.out 0
   have i0:=blk_frozen b0.out 1
   go_wp2_with (first | ((with_reducible refine gate_callee (f:=107) rfl ?_);refine gL (some 17) Try.func107 #[.agg #[.slice b7 b1.length b8,.slice b9 b2.length c0],.slice A1 l1.length c1,.int .i64 b4] ?_;(with_reducible refine (shares_net_load.calls k1 _ _ b1 _ _ b2 _ _ l1 b4 d0 d1 _ ?side1 ?side2 ?side3 ?side4 ?side5 ?side6 A6.out).mono ?_);(case side1=>exact cB e3 HB);(case side2=>exact e4.out);(case side3=>exact cB e5 HB);(case side4=>exact e6.out);(case side5=>exact cB i7 HB);(case side6=>exact i8.out);rintro e w9 ⟨rfl,hb⟩;refine ⟨_,rfl,?_⟩;replace d3:=rB d3 hb;replace b0:=kB b0 hb;replace HB:=bB HB hb;(try clear hb)) | ((with_reducible refine gate_builtin (b:=.append) (xs:=#[.tmp 13,.tmp 18]) rfl ?_);at_builtin;refine Kd.R_append k23 (w0:=w) w.heap.size rfl (.tmp 13) (.tmp 18) 35 23 (.agg #[(.int .i64 0),(.int .i64 0)]) 16 rfl Try.underlying35 info23 rfl (by decide) (by omega) u5 d5 (⟨d0,d1⟩:S23) [.int .i64 d0,.int .i64 d1] (fun _=>True) (fun _=>False) rfl rfl ?aP (fun _ hk=>hk.elim) ?aF ?aO ?aB ?aS ?aL ?_;(case aP=>exact k23_mkM _ _ _ (⟨d0,d1⟩:S23));(case aB=>exact (bl HB));(case aF=>exact (fun _ _=>trivial));(case aO=>exact (rs d3));(case aS=>exact (below_size (bl HB)));(case aL=>have:=h6.out;omega);intro i6 j5 ho hb hg hat;rw [← e1.out] at ho;have e2:=A_ ho;replace b0:=A_ (blk_grown (g:=b3) (o:=.cells #[.slice b7 b1.length b8,.slice b9 b2.length c0] 109 (0,0)) (kb b0) hg (Kd.R_ne d3.out b0.out (by decide)));replace HB:=A_ hb;clear d3;clear ho hb hg hat))
   go_roundg k1
   case measure=>have:=i5.out;omega
   case rel=>exact ⟨(e7),(wrap64 (b4 + 1)),(by first | rfl | (simp;done) | (simp [*];done)),H',⟨by have:=i5.out;omega⟩,⟨by (with_reducible repeat (first | apply Kd.R_alloc | apply Kd.R_drewN | apply Kd.R_drew));exact e2.out⟩,⟨by (with_reducible repeat (first | refine blk_drewN ?_ _ | refine blk_drew ?_ | refine blk_alloc ?_ _));exact b0.out⟩,⟨bl HB⟩⟩
end Go.Proofs.Ytjohcjfmlhihbaa.G
namespace Go.Proofs.Ytjohcjfmlhihbaa.G
open Go.RowKit Go.Proofs.YtjohcjfmlhihbaaW.PrintWords Go.Proofs.YtjohcjfmlhihbaaW.PrintLast Go.Proofs.YtjohcjfmlhihbaaW.PrintMore
set_option maxHeartbeats 8000000
set_option maxRecDepth 100000
attribute [local go_sem] cond_true cond_false fld23_0 fld23_1 fld45_0 fld45_1 fld109_0 fld109_1 fld94_0 fld94_1 max2_int min2_int max_two min_two max_three min_three max_four min_four
def shares_Load.f (k:Nat) (l0:List Int) (l1:List (S45)) (l2:List (S23)):Option ((List (S23)) × Int):=(shares_newNet.f k l0 l1).bind fun b4=>(if b4 = true then ((shares_net_areRates.f k l0 l1 l2).bind fun b3=>(if b3 = true then ((shares_net_loads.f k l0 l1 l2).bind fun b2=>(some (b2,0))) else (some (([]:List (S23)),10)))) else (some (([]:List (S23)),2)))
theorem shares_Load.mono:∀ a0 a1 a2 k,LeO (shares_Load.f k a0 a1 a2) (shares_Load.f (k + 1) a0 a1 a2):=by
 intro a0 a1 a2 k
 unfold shares_Load.f
 repeat' first
   | (with_reducible first | exact shares_net_areRates.mono _ _ _ _ | exact shares_net_loads.mono _ _ _ _ | exact shares_newNet.mono _ _ _ | exact LeO.refl _ | exact LeO.none _ | refine LeO.ite ?_ ?_ | refine LeO.bind ?_ (fun _=>?_))
   | exact LeO.none _ | refine LeO.ite ?_ ?_ | refine LeO.bind ?_ (fun _=>?_)
theorem shares_Load.calls (k:Nat) (A0:Option Addr) (c0:Nat) (l0:List Int) (A1:Option Addr) (c1:Nat) (l1:List (S45)) (A2:Option Addr) (c2:Nat) (l2:List (S23)) (r1:List (S23)) (r2:Int) (w:World) (h4:Kd.C (Kd.int .i64) w A0 l0.length l0) (h5:l0.length ≤ c0) (h6:Kd.C k45 w A1 l1.length l1) (h7:l1.length ≤ c1) (h8:Kd.C k23 w A2 l2.length l2) (h9:l2.length ≤ c2) (h:shares_Load.f k l0 l1 l2 = some (r1,r2)) :
  Calls Try.prog 57 #[.slice A0 l0.length c0,.slice A1 l1.length c1,.slice A2 l2.length c2] w fun e w'=>∃ i0:Value,e = .returned (.tuple #[i0,.int .i64 r2]) ∧ Kd.R k23 23 w' w.heap.size (fun _=>True) i0 r1 ∧ Below w.heap.size w w':=by
 have i1:=Try.underlying109
 have d1:=A_ h4
 have d2:=A_ h5
 clear h4 h5
 have d3:=A_ h6
 have d4:=A_ h7
 clear h6 h7
 have h1:=A_ h8
 have h2:=A_ h9
 clear h8 h9
 have HB:=A_ (Below.refl w.heap.size w)
 have H:((shares_newNet.f k l0 l1).bind fun b4=>(if b4 = true then ((shares_net_areRates.f k l0 l1 l2).bind fun b3=>(if b3 = true then ((shares_net_loads.f k l0 l1 l2).bind fun b2=>(some (b2,0))) else (some (([]:List (S23)),10)))) else (some (([]:List (S23)),2)))) = some (r1,r2):=h
 clear h
 replace H:=Option.bind_eq_some_iff.mp H
 obtain ⟨b4,i2,H⟩:=H
 replace H:(if b4 = true then ((shares_net_areRates.f k l0 l1 l2).bind fun b3=>(if b3 = true then ((shares_net_loads.f k l0 l1 l2).bind fun b2=>(some (b2,0))) else (some (([]:List (S23)),10)))) else (some (([]:List (S23)),2))) = some (r1,r2):=H
 have A4:=A_ i2
 clear i2
 by_cases c5:b4 = true
 case neg =>
  replace c5:=Bool.eq_false_iff.mpr c5
  subst c5
  rw [if_neg (show ¬ (false = true) by decide)] at H
  simp only [Option.some.injEq,Prod.mk.injEq] at H
  obtain ⟨rfl,rfl⟩:=H
  go_enter Try.func57,Try.ntmps57
  go_wp2_with (first | ((with_reducible refine gate_callee (f:=70) rfl ?_);refine gL (some 13) Try.func70 #[.slice A0 l0.length c0,.slice A1 l1.length c1] ?_;(with_reducible refine (shares_newNet.calls k _ _ l0 _ _ l1 false _ ?side1 ?side2 ?side3 ?side4 A4.out).mono ?_);(case side1=>repeat (first | exact d1.out | (with_reducible refine Kd.C_alloc ?_ _) | (with_reducible refine Kd.C_drewN ?_ _) | (with_reducible refine Kd.C_drew ?_)));(case side2=>exact d2.out);(case side3=>repeat (first | exact d3.out | (with_reducible refine Kd.C_alloc ?_ _) | (with_reducible refine Kd.C_drewN ?_ _) | (with_reducible refine Kd.C_drew ?_)));(case side4=>exact d4.out);rintro e j7 ⟨rfl,hb⟩;refine ⟨_,rfl,?_⟩;replace HB:=bB HB hb;(try clear hb)) | ((with_reducible refine gate_dst (N:=8) rfl ?_);refine bx 8 #[.slice none 0 0,.slice none 0 0] 109 ?_;intro b7 hg i3 hbox hb;have b5:=A_ hbox;have b8:=gw hg HB;have h3:=b8;replace HB:=bB HB hb;clear hb hbox hg;have d5:i3.cell? ⟨b7,0,none⟩ = some (.slice none 0 0):=cz b5 0;have d6:i3.cell? ⟨b7,1,none⟩ = some (.slice none 0 0):=cz b5 1;have d7:=blk_frozen b5.out 0;have d8:=blk_frozen b5.out 1))
  go_ret2
  exact ⟨_,by first | rfl | (simp [errW_none,errW_some] <;> rfl) | (simp [*,errW_none,errW_some] <;> rfl),by first | exact Kd.R_nil _ _ _ _ _ | exact Kd.N_nil _ _ _ _ _ | exact Kd.V_nil _ _ _ _ _ | exact Kd.Q_nil _ _ _ _ _ | exact Kd.S_nil _ _ _ _ _,bl HB⟩
 subst c5
 rw [if_pos rfl] at H
 replace H:=Option.bind_eq_some_iff.mp H
 obtain ⟨b3,i4,H⟩:=H
 replace H:(if b3 = true then ((shares_net_loads.f k l0 l1 l2).bind fun b2=>(some (b2,0))) else (some (([]:List (S23)),10))) = some (r1,r2):=H
 have A6:=A_ i4
 clear i4
 by_cases c7:b3 = true
 case neg =>
  replace c7:=Bool.eq_false_iff.mpr c7
  subst c7
  rw [if_neg (show ¬ (false = true) by decide)] at H
  simp only [Option.some.injEq,Prod.mk.injEq] at H
  obtain ⟨rfl,rfl⟩:=H
  go_enter Try.func57,Try.ntmps57
  go_wp2_with (first | ((with_reducible refine gate_callee (f:=70) rfl ?_);refine gL (some 13) Try.func70 #[.slice A0 l0.length c0,.slice A1 l1.length c1] ?_;(with_reducible refine (shares_newNet.calls k _ _ l0 _ _ l1 true _ ?side1 ?side2 ?side3 ?side4 A4.out).mono ?_);(case side1=>repeat (first | exact d1.out | (with_reducible refine Kd.C_alloc ?_ _) | (with_reducible refine Kd.C_drewN ?_ _) | (with_reducible refine Kd.C_drew ?_)));(case side2=>exact d2.out);(case side3=>repeat (first | exact d3.out | (with_reducible refine Kd.C_alloc ?_ _) | (with_reducible refine Kd.C_drewN ?_ _) | (with_reducible refine Kd.C_drew ?_)));(case side4=>exact d4.out);rintro e j8 ⟨rfl,hb⟩;refine ⟨_,rfl,?_⟩;replace HB:=bB HB hb;(try clear hb)) | ((with_reducible refine gate_dst (N:=8) rfl ?_);refine bx 8 #[.slice none 0 0,.slice none 0 0] 109 ?_;intro b1 hg i5 hbox hb;have b0:=A_ hbox;have b6:=gw hg HB;have b9:=b6;replace HB:=bB HB hb;clear hb hbox hg;have d9:i5.cell? ⟨b1,0,none⟩ = some (.slice none 0 0):=cz b0 0;have e0:i5.cell? ⟨b1,1,none⟩ = some (.slice none 0 0):=cz b0 1;have e1:=blk_frozen b0.out 0;have e2:=blk_frozen b0.out 1) | ((with_reducible refine gate_callee (f:=89) rfl ?_);refine gL (some 22) Try.func89 #[.agg #[.slice A0 l0.length c0,.slice A1 l1.length c1],.slice A2 l2.length c2] ?_;(with_reducible refine (shares_net_areRates.calls k _ _ l0 _ _ l1 _ _ l2 false _ ?side1 ?side2 ?side3 ?side4 ?side5 ?side6 A6.out).mono ?_);(case side1=>exact Kd.C_below d1.out (bl HB));(case side2=>exact d2.out);(case side3=>exact Kd.C_below d3.out (bl HB));(case side4=>exact d4.out);(case side5=>exact Kd.C_below h1.out (bl HB));(case side6=>exact h2.out);rintro e j9 ⟨rfl,hb⟩;refine ⟨_,rfl,?_⟩;replace b0:=A_ (blk_below (g:=b1) (o:=.cells #[.slice A0 l0.length c0,.slice A1 l1.length c1] 109 (0,0)) (by (with_reducible repeat (first | refine blk_drewN ?_ _ | refine blk_drew ?_ | refine blk_alloc ?_ _));refine blk_put (cs:=#[.slice A0 l0.length c0,.slice none 0 0]) ?_ 1 _ rfl;(with_reducible repeat (first | refine blk_drewN ?_ _ | refine blk_drew ?_ | refine blk_alloc ?_ _));refine blk_put (cs:=#[.slice none 0 0,.slice none 0 0]) ?_ 0 _ rfl;(with_reducible repeat (first | refine blk_drewN ?_ _ | refine blk_drew ?_ | refine blk_alloc ?_ _));exact b0.out) hb);replace HB:=bB HB hb;(try clear hb)))
  go_ret2
  exact ⟨_,by first | rfl | (simp [errW_none,errW_some] <;> rfl) | (simp [*,errW_none,errW_some] <;> rfl),by first | exact Kd.R_nil _ _ _ _ _ | exact Kd.N_nil _ _ _ _ _ | exact Kd.V_nil _ _ _ _ _ | exact Kd.Q_nil _ _ _ _ _ | exact Kd.S_nil _ _ _ _ _,bl HB⟩
 subst c7
 rw [if_pos rfl] at H
 replace H:=Option.bind_eq_some_iff.mp H
 obtain ⟨b2,i6,H⟩:=H
 replace H:(some (b2,0)) = some (r1,r2):=H
 have A8:=A_ i6
 clear i6
 simp only [Option.some.injEq,Prod.mk.injEq] at H
 obtain ⟨rfl,rfl⟩:=H
 go_enter Try.func57,Try.ntmps57
 go_wp2_with (first | ((with_reducible refine gate_callee (f:=70) rfl ?_);refine gL (some 13) Try.func70 #[.slice A0 l0.length c0,.slice A1 l1.length c1] ?_;(with_reducible refine (shares_newNet.calls k _ _ l0 _ _ l1 true _ ?side1 ?side2 ?side3 ?side4 A4.out).mono ?_);(case side1=>repeat (first | exact d1.out | (with_reducible refine Kd.C_alloc ?_ _) | (with_reducible refine Kd.C_drewN ?_ _) | (with_reducible refine Kd.C_drew ?_)));(case side2=>exact d2.out);(case side3=>repeat (first | exact d3.out | (with_reducible refine Kd.C_alloc ?_ _) | (with_reducible refine Kd.C_drewN ?_ _) | (with_reducible refine Kd.C_drew ?_)));(case side4=>exact d4.out);rintro e w9 ⟨rfl,hb⟩;refine ⟨_,rfl,?_⟩;replace HB:=bB HB hb;(try clear hb)) | ((with_reducible refine gate_dst (N:=8) rfl ?_);refine bx 8 #[.slice none 0 0,.slice none 0 0] 109 ?_;intro b1 hg i7 hbox hb;have b0:=A_ hbox;have b6:=gw hg HB;have b9:=b6;replace HB:=bB HB hb;clear hb hbox hg;have e3:i7.cell? ⟨b1,0,none⟩ = some (.slice none 0 0):=cz b0 0;have e4:i7.cell? ⟨b1,1,none⟩ = some (.slice none 0 0):=cz b0 1;have e5:=blk_frozen b0.out 0;have e6:=blk_frozen b0.out 1) | ((with_reducible refine gate_callee (f:=89) rfl ?_);refine gL (some 22) Try.func89 #[.agg #[.slice A0 l0.length c0,.slice A1 l1.length c1],.slice A2 l2.length c2] ?_;(with_reducible refine (shares_net_areRates.calls k _ _ l0 _ _ l1 _ _ l2 true _ ?side1 ?side2 ?side3 ?side4 ?side5 ?side6 A6.out).mono ?_);(case side1=>exact Kd.C_below d1.out (bl HB));(case side2=>exact d2.out);(case side3=>exact Kd.C_below d3.out (bl HB));(case side4=>exact d4.out);(case side5=>exact Kd.C_below h1.out (bl HB));(case side6=>exact h2.out);rintro e i8 ⟨rfl,hb⟩;refine ⟨_,rfl,?_⟩;replace b0:=A_ (blk_below (g:=b1) (o:=.cells #[.slice A0 l0.length c0,.slice A1 l1.length c1] 109 (0,0)) (by (with_reducible repeat (first | refine blk_drewN ?_ _ | refine blk_drew ?_ | refine blk_alloc ?_ _));refine blk_put (cs:=#[.slice A0 l0.length c0,.slice none 0 0]) ?_ 1 _ rfl;(with_reducible repeat (first | refine blk_drewN ?_ _ | refine blk_drew ?_ | refine blk_alloc ?_ _));refine blk_put (cs:=#[.slice none 0 0,.slice none 0 0]) ?_ 0 _ rfl;(with_reducible repeat (first | refine blk_drewN ?_ _ | refine blk_drew ?_ | refine blk_alloc ?_ _));exact b0.out) hb);replace HB:=bB HB hb;(try clear hb);have e7:i8.cell? ⟨b1,0,none⟩ = some (.slice A0 l0.length c0):=cz b0 0;have e8:i8.cell? ⟨b1,1,none⟩ = some (.slice A1 l1.length c1):=cz b0 1;have e9:=blk_frozen b0.out 0;have h0:=blk_frozen b0.out 1) | ((with_reducible refine gate_callee (f:=90) rfl ?_);refine gL (some 26) Try.func90 #[.agg #[.slice A0 l0.length c0,.slice A1 l1.length c1],.slice A2 l2.length c2] ?_;(with_reducible refine (shares_net_loads.calls k _ _ l0 _ _ l1 _ _ l2 b2 _ ?side1 ?side2 ?side3 ?side4 ?side5 ?side6 A8.out).mono ?_);(case side1=>exact cB d1 HB);(case side2=>exact d2.out);(case side3=>exact cB d3 HB);(case side4=>exact d4.out);(case side5=>exact cB h1 HB);(case side6=>exact h2.out);rintro e l5 ⟨i9,rfl,j5,hb⟩;refine ⟨_,rfl,?_⟩;have d0:=A_ (Kd.R_lower j5 (below_size (bl HB)));replace b0:=kB b0 hb;replace HB:=bB HB hb;(try clear hb)))
 go_ret2
 exact ⟨_,by first | rfl | (simp [errW_none,errW_some] <;> rfl) | (simp [*,errW_none,errW_some] <;> rfl),by (with_reducible repeat (first | apply Kd.R_alloc | apply Kd.R_drewN | apply Kd.R_drew));exact d0.out,bl HB⟩
mutual
def shares_Better.l0:Nat → List Int → List (S45) → List (S23) → List (S23) → Int → Int → List Int → List (S45) → Option (Int × Int)
 | 0,_,_,_,_,_,_,_,_=>none
 | k + 1,x0,x1,x2,m4,q4,h7,d0,d1=>if h7 < q4 then (if 0 ≤ h7 then (if h7 < (m4.length:Int) then (if h7 < (x0.length:Int) then ((shares_whole.f (rd x0 h7)).bind fun e9=>((shares_compare.f k ((rd_T23 m4 h7).f0) ((rd_T23 m4 h7).f1) e9.1 e9.2).bind fun d9=>(if d9 > 0 then (some (0,10)) else (shares_Better.l0 k x0 x1 x2 m4 q4 (wrap64 (h7 + 1)) d0 d1)))) else (none)) else (none)) else (none)) else (shares_Better.l1 k x2 (x1.length:Int) 0 d0 d1)
def shares_Better.l1:Nat → List (S23) → Int → Int → List Int → List (S45) → Option (Int × Int)
 | 0,_,_,_,_,_=>none
 | k + 1,x2,q5,m5,d0,d1=>if m5 < q5 then ((shares_net_held.f k d0 d1 x2 m5).bind fun e0=>(if e0 < 0 then (some (m5,0)) else (shares_Better.l1 k x2 q5 (wrap64 (m5 + 1)) d0 d1))) else (some ((-1),0))
end
def shares_Better.f (k:Nat) (l0:List Int) (l1:List (S45)) (l2:List (S23)):Option (Int × Int):=(shares_newNet.f k l0 l1).bind fun e1=>(if e1 = true then ((shares_net_areRates.f k l0 l1 l2).bind fun d4=>(if d4 = true then ((shares_net_loads.f k l0 l1 l2).bind fun b1=>(shares_Better.l0 k l0 l1 l2 b1 (b1.length:Int) 0 l0 l1)) else (some (0,10)))) else (some (0,2)))
theorem shares_Better.mono_l:∀ k,(∀ y0 y1 y2 y3 y4 y5 y6 y7,LeO (shares_Better.l0 k y0 y1 y2 y3 y4 y5 y6 y7) (shares_Better.l0 (k + 1) y0 y1 y2 y3 y4 y5 y6 y7)) ∧ (∀ y0 y1 y2 y3 y4,LeO (shares_Better.l1 k y0 y1 y2 y3 y4) (shares_Better.l1 (k + 1) y0 y1 y2 y3 y4))
 | 0=>⟨fun _ _ _ _ _ _ _ _ r h=>by simp [shares_Better.l0] at h,fun _ _ _ _ _ r h=>by simp [shares_Better.l1] at h⟩
 | k + 1=>by
  obtain ⟨m6,m7⟩:=shares_Better.mono_l k
  refine ⟨?_,?_⟩
  ·intro y0 y1 y2 y3 y4 y5 y6 y7
   unfold shares_Better.l0
   repeat' first
   | (with_reducible first | exact m6 _ _ _ _ _ _ _ _ | exact m7 _ _ _ _ _ | exact shares_compare.mono _ _ _ _ _ | exact shares_net_areRates.mono _ _ _ _ | exact shares_net_held.mono _ _ _ _ _ | exact shares_net_loads.mono _ _ _ _ | exact shares_newNet.mono _ _ _ | exact LeO.refl _ | exact LeO.none _ | refine LeO.ite ?_ ?_ | refine LeO.bind ?_ (fun _=>?_))
   | exact LeO.none _ | refine LeO.ite ?_ ?_ | refine LeO.bind ?_ (fun _=>?_)
  intro y0 y1 y2 y3 y4
  unfold shares_Better.l1
  repeat' first
  | (with_reducible first | exact m6 _ _ _ _ _ _ _ _ | exact m7 _ _ _ _ _ | exact shares_compare.mono _ _ _ _ _ | exact shares_net_areRates.mono _ _ _ _ | exact shares_net_held.mono _ _ _ _ _ | exact shares_net_loads.mono _ _ _ _ | exact shares_newNet.mono _ _ _ | exact LeO.refl _ | exact LeO.none _ | refine LeO.ite ?_ ?_ | refine LeO.bind ?_ (fun _=>?_))
  | exact LeO.none _ | refine LeO.ite ?_ ?_ | refine LeO.bind ?_ (fun _=>?_)
theorem shares_Better.mono:∀ a0 a1 a2 k,LeO (shares_Better.f k a0 a1 a2) (shares_Better.f (k + 1) a0 a1 a2):=by
 intro a0 a1 a2 k
 obtain ⟨m6,m7⟩:=shares_Better.mono_l k
 unfold shares_Better.f
 repeat' first
   | (with_reducible first | exact m6 _ _ _ _ _ _ _ _ | exact m7 _ _ _ _ _ | exact shares_compare.mono _ _ _ _ _ | exact shares_net_areRates.mono _ _ _ _ | exact shares_net_held.mono _ _ _ _ _ | exact shares_net_loads.mono _ _ _ _ | exact shares_newNet.mono _ _ _ | exact LeO.refl _ | exact LeO.none _ | refine LeO.ite ?_ ?_ | refine LeO.bind ?_ (fun _=>?_))
   | exact LeO.none _ | refine LeO.ite ?_ ?_ | refine LeO.bind ?_ (fun _=>?_)
def shares_Better.T9:Bool × List (List Nat × List Nat):=(true,[([],[]),([],[]),([],[]),([1,2],[1,2]),([3],[3]),([4],[4]),([0,5,5],[0,5]),([6],[6])])
def shares_Better.B9:List Nat:=[0,0,0,6,14,30,63,127]
theorem shares_Better.tab9:rtab .any (opsOf Try.f58 9) = shares_Better.T9:=by kernel_rfl
theorem shares_Better.bits9:waitsOk shares_Better.T9.2 shares_Better.B9 = true:=by kernel_rfl
theorem shares_Better.calls (k:Nat) (A0:Option Addr) (c0:Nat) (l0:List Int) (A1:Option Addr) (c1:Nat) (l1:List (S45)) (A2:Option Addr) (c2:Nat) (l2:List (S23)) (r1:Int) (r2:Int) (w:World) (q6:Kd.C (Kd.int .i64) w A0 l0.length l0) (q7:l0.length ≤ c0) (q8:Kd.C k45 w A1 l1.length l1) (q9:l1.length ≤ c1) (r0:Kd.C k23 w A2 l2.length l2) (r3:l2.length ≤ c2) (h:shares_Better.f k l0 l1 l2 = some (r1,r2)) :
  Calls Try.prog 58 #[.slice A0 l0.length c0,.slice A1 l1.length c1,.slice A2 l2.length c2] w fun e w'=>e = .returned (.tuple #[.int .i64 r1,.int .i64 r2]) ∧ Below w.heap.size w w':=by
 have r4:=Try.underlying109
 have t7:=Try.underlying23
 have h6:=A_ q6
 have h8:=A_ q7
 clear q6 q7
 have h9:=A_ q8
 have i0:=A_ q9
 clear q8 q9
 have l6:=A_ r0
 have l7:=A_ r3
 clear r0 r3
 have HB:=A_ (Below.refl w.heap.size w)
 have H:((shares_newNet.f k l0 l1).bind fun e1=>(if e1 = true then ((shares_net_areRates.f k l0 l1 l2).bind fun d4=>(if d4 = true then ((shares_net_loads.f k l0 l1 l2).bind fun b1=>(shares_Better.l0 k l0 l1 l2 b1 (b1.length:Int) 0 l0 l1)) else (some (0,10)))) else (some (0,2)))) = some (r1,r2):=h
 clear h
 replace H:=Option.bind_eq_some_iff.mp H
 obtain ⟨e1,r5,H⟩:=H
 replace H:(if e1 = true then ((shares_net_areRates.f k l0 l1 l2).bind fun d4=>(if d4 = true then ((shares_net_loads.f k l0 l1 l2).bind fun b1=>(shares_Better.l0 k l0 l1 l2 b1 (b1.length:Int) 0 l0 l1)) else (some (0,10)))) else (some (0,2))) = some (r1,r2):=H
 have A4:=A_ r5
 clear r5
 by_cases c5:e1 = true
 case neg =>
  replace c5:=Bool.eq_false_iff.mpr c5
  subst c5
  rw [if_neg (show ¬ (false = true) by decide)] at H
  simp only [Option.some.injEq,Prod.mk.injEq] at H
  obtain ⟨rfl,rfl⟩:=H
  go_enter Try.func58,Try.ntmps58
  go_wp2_with (first | ((with_reducible refine gate_callee (f:=70) rfl ?_);refine gL (some 16) Try.func70 #[.slice A0 l0.length c0,.slice A1 l1.length c1] ?_;(with_reducible refine (shares_newNet.calls k _ _ l0 _ _ l1 false _ ?side1 ?side2 ?side3 ?side4 A4.out).mono ?_);(case side1=>repeat (first | exact h6.out | (with_reducible refine Kd.C_alloc ?_ _) | (with_reducible refine Kd.C_drewN ?_ _) | (with_reducible refine Kd.C_drew ?_)));(case side2=>exact h8.out);(case side3=>repeat (first | exact h9.out | (with_reducible refine Kd.C_alloc ?_ _) | (with_reducible refine Kd.C_drewN ?_ _) | (with_reducible refine Kd.C_drew ?_)));(case side4=>exact i0.out);rintro e x6 ⟨rfl,hb⟩;refine ⟨_,rfl,?_⟩;replace HB:=bB HB hb;(try clear hb)) | ((with_reducible refine gate_dst (N:=8) rfl ?_);refine bx 8 #[.slice none 0 0,.slice none 0 0] 109 ?_;intro h0 hg r6 hbox hb;have e4:=A_ hbox;have i1:=gw hg HB;have q1:=i1;replace HB:=bB HB hb;clear hb hbox hg;have m8:r6.cell? ⟨h0,0,none⟩ = some (.slice none 0 0):=cz e4 0;have m9:r6.cell? ⟨h0,1,none⟩ = some (.slice none 0 0):=cz e4 1;have n0:=blk_frozen e4.out 0;have n1:=blk_frozen e4.out 1))
  go_ret2
  exact ⟨by first | rfl | (simp [errW_none,errW_some] <;> rfl) | (simp [*,errW_none,errW_some] <;> rfl),bl HB⟩
 subst c5
 rw [if_pos rfl] at H
 replace H:=Option.bind_eq_some_iff.mp H
 obtain ⟨d4,r7,H⟩:=H
 replace H:(if d4 = true then ((shares_net_loads.f k l0 l1 l2).bind fun b1=>(shares_Better.l0 k l0 l1 l2 b1 (b1.length:Int) 0 l0 l1)) else (some (0,10))) = some (r1,r2):=H
 have A6:=A_ r7
 clear r7
 by_cases c7:d4 = true
 case neg =>
  replace c7:=Bool.eq_false_iff.mpr c7
  subst c7
  rw [if_neg (show ¬ (false = true) by decide)] at H
  simp only [Option.some.injEq,Prod.mk.injEq] at H
  obtain ⟨rfl,rfl⟩:=H
  go_enter Try.func58,Try.ntmps58
  go_wp2_with (first | ((with_reducible refine gate_callee (f:=70) rfl ?_);refine gL (some 16) Try.func70 #[.slice A0 l0.length c0,.slice A1 l1.length c1] ?_;(with_reducible refine (shares_newNet.calls k _ _ l0 _ _ l1 true _ ?side1 ?side2 ?side3 ?side4 A4.out).mono ?_);(case side1=>repeat (first | exact h6.out | (with_reducible refine Kd.C_alloc ?_ _) | (with_reducible refine Kd.C_drewN ?_ _) | (with_reducible refine Kd.C_drew ?_)));(case side2=>exact h8.out);(case side3=>repeat (first | exact h9.out | (with_reducible refine Kd.C_alloc ?_ _) | (with_reducible refine Kd.C_drewN ?_ _) | (with_reducible refine Kd.C_drew ?_)));(case side4=>exact i0.out);rintro e x7 ⟨rfl,hb⟩;refine ⟨_,rfl,?_⟩;replace HB:=bB HB hb;(try clear hb)) | ((with_reducible refine gate_dst (N:=8) rfl ?_);refine bx 8 #[.slice none 0 0,.slice none 0 0] 109 ?_;intro b7 hg r8 hbox hb;have b0:=A_ hbox;have e5:=gw hg HB;have i2:=e5;replace HB:=bB HB hb;clear hb hbox hg;have n2:r8.cell? ⟨b7,0,none⟩ = some (.slice none 0 0):=cz b0 0;have n3:r8.cell? ⟨b7,1,none⟩ = some (.slice none 0 0):=cz b0 1;have n4:=blk_frozen b0.out 0;have n5:=blk_frozen b0.out 1) | ((with_reducible refine gate_callee (f:=89) rfl ?_);refine gL (some 25) Try.func89 #[.agg #[.slice A0 l0.length c0,.slice A1 l1.length c1],.slice A2 l2.length c2] ?_;(with_reducible refine (shares_net_areRates.calls k _ _ l0 _ _ l1 _ _ l2 false _ ?side1 ?side2 ?side3 ?side4 ?side5 ?side6 A6.out).mono ?_);(case side1=>exact Kd.C_below h6.out (bl HB));(case side2=>exact h8.out);(case side3=>exact Kd.C_below h9.out (bl HB));(case side4=>exact i0.out);(case side5=>exact Kd.C_below l6.out (bl HB));(case side6=>exact l7.out);rintro e x8 ⟨rfl,hb⟩;refine ⟨_,rfl,?_⟩;replace b0:=A_ (blk_below (g:=b7) (o:=.cells #[.slice A0 l0.length c0,.slice A1 l1.length c1] 109 (0,0)) (by (with_reducible repeat (first | refine blk_drewN ?_ _ | refine blk_drew ?_ | refine blk_alloc ?_ _));refine blk_put (cs:=#[.slice A0 l0.length c0,.slice none 0 0]) ?_ 1 _ rfl;(with_reducible repeat (first | refine blk_drewN ?_ _ | refine blk_drew ?_ | refine blk_alloc ?_ _));refine blk_put (cs:=#[.slice none 0 0,.slice none 0 0]) ?_ 0 _ rfl;(with_reducible repeat (first | refine blk_drewN ?_ _ | refine blk_drew ?_ | refine blk_alloc ?_ _));exact b0.out) hb);replace HB:=bB HB hb;(try clear hb)))
  go_ret2
  exact ⟨by first | rfl | (simp [errW_none,errW_some] <;> rfl) | (simp [*,errW_none,errW_some] <;> rfl),bl HB⟩
 subst c7
 rw [if_pos rfl] at H
 replace H:=Option.bind_eq_some_iff.mp H
 obtain ⟨b1,r9,H⟩:=H
 replace H:(shares_Better.l0 k l0 l1 l2 b1 (b1.length:Int) 0 l0 l1) = some (r1,r2):=H
 have A8:=A_ r9
 clear r9
 have H':=A_ H
 clear H
 go_enter Try.func58,Try.ntmps58
 go_wp2_with (first | ((with_reducible refine gate_callee (f:=70) rfl ?_);refine gL (some 16) Try.func70 #[.slice A0 l0.length c0,.slice A1 l1.length c1] ?_;(with_reducible refine (shares_newNet.calls k _ _ l0 _ _ l1 true _ ?side1 ?side2 ?side3 ?side4 A4.out).mono ?_);(case side1=>repeat (first | exact h6.out | (with_reducible refine Kd.C_alloc ?_ _) | (with_reducible refine Kd.C_drewN ?_ _) | (with_reducible refine Kd.C_drew ?_)));(case side2=>exact h8.out);(case side3=>repeat (first | exact h9.out | (with_reducible refine Kd.C_alloc ?_ _) | (with_reducible refine Kd.C_drewN ?_ _) | (with_reducible refine Kd.C_drew ?_)));(case side4=>exact i0.out);rintro e w9 ⟨rfl,hb⟩;refine ⟨_,rfl,?_⟩;replace HB:=bB HB hb;(try clear hb)) | ((with_reducible refine gate_dst (N:=8) rfl ?_);refine bx 8 #[.slice none 0 0,.slice none 0 0] 109 ?_;intro b7 hg s0 hbox hb;have b0:=A_ hbox;have e5:=gw hg HB;have i2:=e5;replace HB:=bB HB hb;clear hb hbox hg;have n6:s0.cell? ⟨b7,0,none⟩ = some (.slice none 0 0):=cz b0 0;have n7:s0.cell? ⟨b7,1,none⟩ = some (.slice none 0 0):=cz b0 1;have n8:=blk_frozen b0.out 0;have n9:=blk_frozen b0.out 1) | ((with_reducible refine gate_callee (f:=89) rfl ?_);refine gL (some 25) Try.func89 #[.agg #[.slice A0 l0.length c0,.slice A1 l1.length c1],.slice A2 l2.length c2] ?_;(with_reducible refine (shares_net_areRates.calls k _ _ l0 _ _ l1 _ _ l2 true _ ?side1 ?side2 ?side3 ?side4 ?side5 ?side6 A6.out).mono ?_);(case side1=>exact Kd.C_below h6.out (bl HB));(case side2=>exact h8.out);(case side3=>exact Kd.C_below h9.out (bl HB));(case side4=>exact i0.out);(case side5=>exact Kd.C_below l6.out (bl HB));(case side6=>exact l7.out);rintro e s1 ⟨rfl,hb⟩;refine ⟨_,rfl,?_⟩;replace b0:=A_ (blk_below (g:=b7) (o:=.cells #[.slice A0 l0.length c0,.slice A1 l1.length c1] 109 (0,0)) (by (with_reducible repeat (first | refine blk_drewN ?_ _ | refine blk_drew ?_ | refine blk_alloc ?_ _));refine blk_put (cs:=#[.slice A0 l0.length c0,.slice none 0 0]) ?_ 1 _ rfl;(with_reducible repeat (first | refine blk_drewN ?_ _ | refine blk_drew ?_ | refine blk_alloc ?_ _));refine blk_put (cs:=#[.slice none 0 0,.slice none 0 0]) ?_ 0 _ rfl;(with_reducible repeat (first | refine blk_drewN ?_ _ | refine blk_drew ?_ | refine blk_alloc ?_ _));exact b0.out) hb);replace HB:=bB HB hb;(try clear hb);have o0:s1.cell? ⟨b7,0,none⟩ = some (.slice A0 l0.length c0):=cz b0 0;have o1:s1.cell? ⟨b7,1,none⟩ = some (.slice A1 l1.length c1):=cz b0 1;have o2:=blk_frozen b0.out 0;have o3:=blk_frozen b0.out 1) | ((with_reducible refine gate_callee (f:=90) rfl ?_);refine gL (some 29) Try.func90 #[.agg #[.slice A0 l0.length c0,.slice A1 l1.length c1],.slice A2 l2.length c2] ?_;(with_reducible refine (shares_net_loads.calls k _ _ l0 _ _ l1 _ _ l2 b1 _ ?side1 ?side2 ?side3 ?side4 ?side5 ?side6 A8.out).mono ?_);(case side1=>exact cB h6 HB);(case side2=>exact h8.out);(case side3=>exact cB h9 HB);(case side4=>exact i0.out);(case side5=>exact cB l6 HB);(case side6=>exact l7.out);rintro e x9 ⟨s2,rfl,t8,hb⟩;refine ⟨_,rfl,?_⟩;have h1:=A_ (Kd.R_lower t8 (below_size (bl HB)));replace b0:=kB b0 hb;replace HB:=bB HB hb;(try clear hb);obtain ⟨q2,i3,q3⟩:=Kd.R_slice h1.out;subst q3))
 go_loopg [31] k (fun kq t9 w'=>∃ (b2:Int),t9 = .int .i64 b2 ∧ Aside0 (shares_Better.l0 kq l0 l1 l2 b1 (b1.length:Int) b2 l0 l1 = some (r1,r2)) ∧ Aside0 (kq ≤ k) ∧ Aside0 (Kd.R k23 23 w' w.heap.size (fun _=>True) (.slice q2 b1.length i3) b1) ∧ Aside0 (w'.heap[b7]? = some (.cells #[(.slice A0 l0.length c0),(.slice A1 l1.length c1)] 109 (0,0))) ∧ Aside0 (Below w.heap.size w w'))
 case atStart=>exact ⟨(0),(by first | rfl | (simp;done) | (simp [*];done)),H',⟨Nat.le_refl _⟩,⟨by (with_reducible repeat (first | apply Kd.R_alloc | apply Kd.R_drewN | apply Kd.R_drew));exact h1.out⟩,⟨by (with_reducible repeat (first | refine blk_drewN ?_ _ | refine blk_drew ?_ | refine blk_alloc ?_ _));exact b0.out⟩,⟨bl HB⟩⟩
 case round =>
  clear H'
  obtain ⟨b2,rfl,HA,o4,b6,b0,HB⟩:=hrel
  cases gk with
  | zero=>exact absurd HA.out (by simp [shares_Better.l0])
  | succ k1 =>
   have H:=HA.out
   clear HA
   simp only [shares_Better.l0] at H
   by_cases j7:b2 < (b1.length:Int)
   case neg =>
    rw [if_neg j7] at H
    have l8:=decide_eq_false j7
    clear j7
    have H':=A_ H
    clear H
    go_wp2
    go_loopg [47] k1 (fun kq x3 w'=>∃ (d2:Int),x3 = .int .i64 d2 ∧ Aside0 (shares_Better.l1 kq l2 (l1.length:Int) d2 l0 l1 = some (r1,r2)) ∧ Aside0 (kq ≤ k1) ∧ Aside0 (w'.heap[b7]? = some (.cells #[(.slice A0 l0.length c0),(.slice A1 l1.length c1)] 109 (0,0))) ∧ Aside0 (Below w.heap.size w w'))
    case atStart=>exact ⟨(0),(by first | rfl | (simp;done) | (simp [*];done)),H',⟨Nat.le_refl _⟩,⟨by (with_reducible repeat (first | refine blk_drewN ?_ _ | refine blk_drew ?_ | refine blk_alloc ?_ _));exact b0.out⟩,⟨bl HB⟩⟩
    case round =>
     clear H'
     obtain ⟨d2,rfl,HA,s3,b0,HB⟩:=hrel
     cases gk with
     | zero=>exact absurd HA.out (by simp [shares_Better.l1])
     | succ k2 =>
      have H:=HA.out
      clear HA
      simp only [shares_Better.l1] at H
      by_cases j8:d2 < (l1.length:Int)
      case neg =>
       rw [if_neg j8] at H
       have l9:=decide_eq_false j8
       clear j8
       simp only [Option.some.injEq,Prod.mk.injEq] at H
       obtain ⟨rfl,rfl⟩:=H
       go_wp2
       go_ret2
       exact ⟨by first | rfl | (simp [errW_none,errW_some] <;> rfl) | (simp [*,errW_none,errW_some] <;> rfl),bl HB⟩
      rw [if_pos j8] at H
      have l9:=decide_eq_true j8
      clear j8
      replace H:=Option.bind_eq_some_iff.mp H
      obtain ⟨e0,m0,H⟩:=H
      replace H:(if e0 < 0 then (some (d2,0)) else (shares_Better.l1 k2 l2 (l1.length:Int) (wrap64 (d2 + 1)) l0 l1)) = some (r1,r2):=H
      have s4:=A_ m0
      clear m0
      by_cases j9:e0 < 0
      ·rw [if_pos j9] at H
       have m1:=decide_eq_true j9
       clear j9
       simp only [Option.some.injEq,Prod.mk.injEq] at H
       obtain ⟨rfl,rfl⟩:=H
       have o5:wr.cell? ⟨b7,0,none⟩ = some (.slice A0 l0.length c0):=cz b0 0
       have o6:wr.cell? ⟨b7,1,none⟩ = some (.slice A1 l1.length c1):=cz b0 1
       have o7:=blk_frozen b0.out 0
       have o8:=blk_frozen b0.out 1
       go_wp2_with (first | ((with_reducible refine gate_callee (f:=72) rfl ?_);refine gL (some 53) Try.func72 #[.agg #[.slice A0 l0.length c0,.slice A1 l1.length c1],.slice A2 l2.length c2,.int .i64 d2] ?_;(with_reducible refine (shares_net_held.calls k2 _ _ l0 _ _ l1 _ _ l2 d2 e0 _ ?side1 ?side2 ?side3 ?side4 ?side5 ?side6 s4.out).mono ?_);(case side1=>exact cB h6 HB);(case side2=>exact h8.out);(case side3=>exact cB h9 HB);(case side4=>exact i0.out);(case side5=>exact cB l6 HB);(case side6=>exact l7.out);rintro e y8 ⟨rfl,hb⟩;refine ⟨_,rfl,?_⟩;replace b0:=kB b0 hb;replace HB:=bB HB hb;(try clear hb)))
       go_ret2
       exact ⟨by first | rfl | (simp [errW_none,errW_some] <;> rfl) | (simp [*,errW_none,errW_some] <;> rfl),bl HB⟩
      rw [if_neg j9] at H
      have m1:=decide_eq_false j9
      clear j9
      have H':=A_ H
      clear H
      have o9:wr.cell? ⟨b7,0,none⟩ = some (.slice A0 l0.length c0):=cz b0 0
      have p0:wr.cell? ⟨b7,1,none⟩ = some (.slice A1 l1.length c1):=cz b0 1
      have p1:=blk_frozen b0.out 0
      have p2:=blk_frozen b0.out 1
      go_wp2_with (first | ((with_reducible refine gate_callee (f:=72) rfl ?_);refine gL (some 53) Try.func72 #[.agg #[.slice A0 l0.length c0,.slice A1 l1.length c1],.slice A2 l2.length c2,.int .i64 d2] ?_;(with_reducible refine (shares_net_held.calls k2 _ _ l0 _ _ l1 _ _ l2 d2 e0 _ ?side1 ?side2 ?side3 ?side4 ?side5 ?side6 s4.out).mono ?_);(case side1=>exact cB h6 HB);(case side2=>exact h8.out);(case side3=>exact cB h9 HB);(case side4=>exact i0.out);(case side5=>exact cB l6 HB);(case side6=>exact l7.out);rintro e y9 ⟨rfl,hb⟩;refine ⟨_,rfl,?_⟩;replace b0:=kB b0 hb;replace HB:=bB HB hb;(try clear hb)))
      go_roundg k2
      case measure=>have:=o4.out;have:=s3.out;omega
      case rel=>exact ⟨(wrap64 (d2 + 1)),(by first | rfl | (simp;done) | (simp [*];done)),H',⟨by have:=o4.out;have:=s3.out;omega⟩,⟨by (with_reducible repeat (first | refine blk_drewN ?_ _ | refine blk_drew ?_ | refine blk_alloc ?_ _));exact b0.out⟩,⟨bl HB⟩⟩
   rw [if_pos j7] at H
   have l8:=decide_eq_true j7
   clear j7
   replace H:=gd H
   obtain ⟨s5,H⟩:=H
   have s6:=decide_eq_true s5
   clear s5
   replace H:=gd H
   obtain ⟨s7,H⟩:=H
   have s8:=decide_eq_true s7
   clear s7
   replace H:=gd H
   obtain ⟨s9,H⟩:=H
   have t0:=decide_eq_true s9
   clear s9
   replace H:=Option.bind_eq_some_iff.mp H
   obtain ⟨⟨e2,e3⟩,A200,H⟩:=H
   dsimp only at H
   have t1:=A_ A200
   clear A200
   replace H:=Option.bind_eq_some_iff.mp H
   obtain ⟨d9,m2,H⟩:=H
   replace H:(if d9 > 0 then (some (0,10)) else (shares_Better.l0 k1 l0 l1 l2 b1 (b1.length:Int) (wrap64 (b2 + 1)) l0 l1)) = some (r1,r2):=H
   have t2:=A_ m2
   clear m2
   by_cases l5:d9 > 0
   ·rw [if_pos l5] at H
    have m3:=decide_eq_true l5
    clear l5
    simp only [Option.some.injEq,Prod.mk.injEq] at H
    obtain ⟨rfl,rfl⟩:=H
    have d5:0 ≤ (b2:Int):=of_decide_eq_true (by first | (with_reducible assumption) | assumption)
    have d6:b2 < (b1.length:Int):=of_decide_eq_true (by first | (with_reducible assumption) | assumption)
    obtain ⟨e6,h2,h3,h4⟩:=at_T23 (Kd.R_reads' b6.out).2.2 b2 d5 d6
    cases h2
    replace d5:=eq_true d5
    replace d6:=eq_true d6
    try go_wp2_with (first | ((with_reducible refine gate_dst (N:=11) rfl ?_);refine bx 11 #[.int .i64 0,.int .i64 0] 23 ?_;intro b3 hg i4 hbox hb;have b4:=A_ hbox;have e7:=gw hg HB;have i5:=e7;have b8:=nl hg b0;have d3:=ng hg b0;replace b6:=A_ (Kd.R_below (Kd.R_elderB (rs b6) b3 (Nat.le_of_eq hg.symm)) hb);replace b0:=kB b0 hb;replace HB:=bB HB hb;clear hb hbox hg;have t3:=d3.out;have t4:=b8.out;have p3:i4.cell? ⟨b3,0,none⟩ = some (.int .i64 0):=cz b4 0;have p4:i4.cell? ⟨b3,1,none⟩ = some (.int .i64 0):=cz b4 1;have p5:=blk_frozen b4.out 0;have p6:=blk_frozen b4.out 1))
    have i6:Aside0 (Kd.R k23 23 ((i4.setCell ⟨b3,0,none⟩ (.int .i64 ((rd_T23 b1 b2).f0))).setCell ⟨b3,1,none⟩ (.int .i64 ((rd_T23 b1 b2).f1))) w.heap.size (fun k_=>k_ ≠ b3) (.slice (some e6) b1.length i3) b1):=⟨by (with_reducible repeat (first | apply Kd.R_alloc | apply Kd.R_drewN | apply Kd.R_drew));exact Kd.R_mono (Kd.R_far (p:=⟨b3,1,none⟩) (Kd.R_far (p:=⟨b3,0,none⟩) (Kd.R_mono b6.out (fun k_ hk=>(⟨hk,hk.2⟩:_ ∧ k_ ≠ b3))) (fun _ hk=>hk.2) (.int .i64 ((rd_T23 b1 b2).f0))) (fun _ hk=>hk.2) (.int .i64 ((rd_T23 b1 b2).f1))) (fun _ hk=>hk.1.2)⟩
    have i7:Aside0 (((i4.setCell ⟨b3,0,none⟩ (.int .i64 ((rd_T23 b1 b2).f0))).setCell ⟨b3,1,none⟩ (.int .i64 ((rd_T23 b1 b2).f1))).heap[b7]? = some (.cells #[.slice A0 l0.length c0,.slice A1 l1.length c1] 109 (0,0))):=⟨by (with_reducible repeat (first | refine blk_drewN ?_ _ | refine blk_drew ?_ | refine blk_alloc ?_ _));refine blk_far ?_ b8.out _;(with_reducible repeat (first | refine blk_drewN ?_ _ | refine blk_drew ?_ | refine blk_alloc ?_ _));refine blk_far ?_ b8.out _;(with_reducible repeat (first | refine blk_drewN ?_ _ | refine blk_drew ?_ | refine blk_alloc ?_ _));exact b0.out⟩
    have i8:Aside0 (((i4.setCell ⟨b3,0,none⟩ (.int .i64 ((rd_T23 b1 b2).f0))).setCell ⟨b3,1,none⟩ (.int .i64 ((rd_T23 b1 b2).f1))).heap[b3]? = some (.cells #[.int .i64 ((rd_T23 b1 b2).f0),.int .i64 ((rd_T23 b1 b2).f1)] 23 (0,0))):=⟨by (with_reducible repeat (first | refine blk_drewN ?_ _ | refine blk_drew ?_ | refine blk_alloc ?_ _));refine blk_put (cs:=#[.int .i64 ((rd_T23 b1 b2).f0),.int .i64 0]) ?_ 1 _ rfl;(with_reducible repeat (first | refine blk_drewN ?_ _ | refine blk_drew ?_ | refine blk_alloc ?_ _));refine blk_put (cs:=#[.int .i64 0,.int .i64 0]) ?_ 0 _ rfl;(with_reducible repeat (first | refine blk_drewN ?_ _ | refine blk_drew ?_ | refine blk_alloc ?_ _));exact b4.out⟩
    have i9:Aside0 (Below w.heap.size w ((i4.setCell ⟨b3,0,none⟩ (.int .i64 ((rd_T23 b1 b2).f0))).setCell ⟨b3,1,none⟩ (.int .i64 ((rd_T23 b1 b2).f1)))):=⟨bl HB⟩
    generalize ((i4.setCell ⟨b3,0,none⟩ (.int .i64 ((rd_T23 b1 b2).f0))).setCell ⟨b3,1,none⟩ (.int .i64 ((rd_T23 b1 b2).f1))) = x4 at i6 i7 i8 i9 ⊢
    have b6:=i6
    have b0:=i7
    have b4:=i8
    have HB:=i9
    clear i6 i7 i8 i9
    replace b6:=rD b6
    replace b0:=kD b0
    replace b4:=kD b4
    replace HB:=bD HB
    have d7:0 ≤ (b2:Int):=of_decide_eq_true (by first | (with_reducible assumption) | assumption)
    have d8:b2 < (l0.length:Int):=of_decide_eq_true (by first | (with_reducible assumption) | assumption)
    obtain ⟨e8,h5,b9⟩:=Kd.at_int h6.out b2 d7 d8
    have b5:=b9
    cases h5
    replace b9:=(HB.out.cell (World.block_lt_of_cell? w _ b9)).trans b9
    replace d7:=eq_true d7
    replace d8:=eq_true d8
    refine start_ (n:=8) (S:=fun w'=>w'.cell? ⟨b3,0,none⟩ = some (.int .i64 ((rd_T23 b1 b2).f0)) ∧ w'.cell? ⟨b3,1,none⟩ = some (.int .i64 ((rd_T23 b1 b2).f1)) ∧ w'.cell? (e8.add (b2).toNat) = some (.int .i64 (rd l0 b2))) (ds:=[]) (ba 8 0) (by kernel_rfl) rfl rfl ⟨cz b4 0,cz b4 1,((HB.out.cell (World.block_lt_of_cell? w _ b5)).trans b5)⟩ (fun hHeld=>?_);refine with_tabW shares_Better.tab9 shares_Better.bits9 (fun HT_ HW_=>?_)
    generalize x4.drew = z0 at b6 b0 b4 HB b9 hHeld ⊢
    refine pq 1 37 2 HT_ ?_
    refine pq 2 38 6 HT_ ?_
    refine pq 3 39 14 HT_ ?_
    refine tq 0 36 15 HT_ HW_ hHeld ?_
    refine tq 4 40 31 HT_ HW_ hHeld ?_
    refine oq 5 41 63 HT_ (fun K hK=>?_)
    refine gq Try.func64 #[.int .i64 (rd l0 b2)] ?_
    with_reducible refine (shares_whole.calls (rd l0 b2) e2 e3 _ t1.out).mono ?_
    rintro e z1 ⟨rfl,hb⟩
    refine ⟨_,rfl,?_⟩
    replace b6:=rB b6 hb
    replace b0:=kB b0 hb
    replace b4:=kB b4 hb
    replace HB:=bB HB hb
    (try clear hb)
    refine hK.out _ _ ⟨cz b4 0,cz b4 1,((HB.out.cell (World.block_lt_of_cell? w _ b5)).trans b5)⟩ (fun hHeld=>?_)
    clear hK K
    refine nq 41 ?_
    refine oq 6 42 127 HT_ (fun K hK=>?_)
    refine gq Try.func85 #[.agg #[.int .i64 ((rd_T23 b1 b2).f0),.int .i64 ((rd_T23 b1 b2).f1)],.agg #[.int .i64 e2,.int .i64 e3]] ?_
    with_reducible refine (shares_compare.calls k1 ((rd_T23 b1 b2).f0) ((rd_T23 b1 b2).f1) e2 e3 d9 _ t2.out).mono ?_
    rintro e z2 ⟨rfl,hb⟩
    refine ⟨_,rfl,?_⟩
    replace b6:=rB b6 hb
    replace b0:=kB b0 hb
    replace b4:=kB b4 hb
    replace HB:=bB HB hb
    (try clear hb)
    refine hK.out _ _ ⟨cz b4 0,cz b4 1,((HB.out.cell (World.block_lt_of_cell? w _ b5)).trans b5)⟩ (fun hHeld=>?_)
    clear hK K
    refine nq 42 ?_
    refine pq 7 43 255 HT_ ?_
    refine done_ (done_of HT_.out (by kernel_rfl)) ?_
    try go_wp2
    go_ret2
    exact ⟨by first | rfl | (simp [errW_none,errW_some] <;> rfl) | (simp [*,errW_none,errW_some] <;> rfl),bl HB⟩
   rw [if_neg l5] at H
   have m3:=decide_eq_false l5
   clear l5
   have H':=A_ H
   clear H
   have d5:0 ≤ (b2:Int):=of_decide_eq_true (by first | (with_reducible assumption) | assumption)
   have d6:b2 < (b1.length:Int):=of_decide_eq_true (by first | (with_reducible assumption) | assumption)
   obtain ⟨e6,h2,h3,h4⟩:=at_T23 (Kd.R_reads' b6.out).2.2 b2 d5 d6
   cases h2
   replace d5:=eq_true d5
   replace d6:=eq_true d6
   try go_wp2_with (first | ((with_reducible refine gate_dst (N:=11) rfl ?_);refine bx 11 #[.int .i64 0,.int .i64 0] 23 ?_;intro b3 hg j5 hbox hb;have b4:=A_ hbox;have e7:=gw hg HB;have i5:=e7;have b8:=nl hg b0;have d3:=ng hg b0;replace b6:=A_ (Kd.R_below (Kd.R_elderB (rs b6) b3 (Nat.le_of_eq hg.symm)) hb);replace b0:=kB b0 hb;replace HB:=bB HB hb;clear hb hbox hg;have t5:=d3.out;have t6:=b8.out;have p7:j5.cell? ⟨b3,0,none⟩ = some (.int .i64 0):=cz b4 0;have p8:j5.cell? ⟨b3,1,none⟩ = some (.int .i64 0):=cz b4 1;have p9:=blk_frozen b4.out 0;have q0:=blk_frozen b4.out 1))
   have i6:Aside0 (Kd.R k23 23 ((j5.setCell ⟨b3,0,none⟩ (.int .i64 ((rd_T23 b1 b2).f0))).setCell ⟨b3,1,none⟩ (.int .i64 ((rd_T23 b1 b2).f1))) w.heap.size (fun k_=>k_ ≠ b3) (.slice (some e6) b1.length i3) b1):=⟨by (with_reducible repeat (first | apply Kd.R_alloc | apply Kd.R_drewN | apply Kd.R_drew));exact Kd.R_mono (Kd.R_far (p:=⟨b3,1,none⟩) (Kd.R_far (p:=⟨b3,0,none⟩) (Kd.R_mono b6.out (fun k_ hk=>(⟨hk,hk.2⟩:_ ∧ k_ ≠ b3))) (fun _ hk=>hk.2) (.int .i64 ((rd_T23 b1 b2).f0))) (fun _ hk=>hk.2) (.int .i64 ((rd_T23 b1 b2).f1))) (fun _ hk=>hk.1.2)⟩
   have i7:Aside0 (((j5.setCell ⟨b3,0,none⟩ (.int .i64 ((rd_T23 b1 b2).f0))).setCell ⟨b3,1,none⟩ (.int .i64 ((rd_T23 b1 b2).f1))).heap[b7]? = some (.cells #[.slice A0 l0.length c0,.slice A1 l1.length c1] 109 (0,0))):=⟨by (with_reducible repeat (first | refine blk_drewN ?_ _ | refine blk_drew ?_ | refine blk_alloc ?_ _));refine blk_far ?_ b8.out _;(with_reducible repeat (first | refine blk_drewN ?_ _ | refine blk_drew ?_ | refine blk_alloc ?_ _));refine blk_far ?_ b8.out _;(with_reducible repeat (first | refine blk_drewN ?_ _ | refine blk_drew ?_ | refine blk_alloc ?_ _));exact b0.out⟩
   have i8:Aside0 (((j5.setCell ⟨b3,0,none⟩ (.int .i64 ((rd_T23 b1 b2).f0))).setCell ⟨b3,1,none⟩ (.int .i64 ((rd_T23 b1 b2).f1))).heap[b3]? = some (.cells #[.int .i64 ((rd_T23 b1 b2).f0),.int .i64 ((rd_T23 b1 b2).f1)] 23 (0,0))):=⟨by (with_reducible repeat (first | refine blk_drewN ?_ _ | refine blk_drew ?_ | refine blk_alloc ?_ _));refine blk_put (cs:=#[.int .i64 ((rd_T23 b1 b2).f0),.int .i64 0]) ?_ 1 _ rfl;(with_reducible repeat (first | refine blk_drewN ?_ _ | refine blk_drew ?_ | refine blk_alloc ?_ _));refine blk_put (cs:=#[.int .i64 0,.int .i64 0]) ?_ 0 _ rfl;(with_reducible repeat (first | refine blk_drewN ?_ _ | refine blk_drew ?_ | refine blk_alloc ?_ _));exact b4.out⟩
   have i9:Aside0 (Below w.heap.size w ((j5.setCell ⟨b3,0,none⟩ (.int .i64 ((rd_T23 b1 b2).f0))).setCell ⟨b3,1,none⟩ (.int .i64 ((rd_T23 b1 b2).f1)))):=⟨bl HB⟩
   generalize ((j5.setCell ⟨b3,0,none⟩ (.int .i64 ((rd_T23 b1 b2).f0))).setCell ⟨b3,1,none⟩ (.int .i64 ((rd_T23 b1 b2).f1))) = x5 at i6 i7 i8 i9 ⊢
   have b6:=i6
   have b0:=i7
   have b4:=i8
   have HB:=i9
   clear i6 i7 i8 i9
   replace b6:=rD b6
   replace b0:=kD b0
   replace b4:=kD b4
   replace HB:=bD HB
   have d7:0 ≤ (b2:Int):=of_decide_eq_true (by first | (with_reducible assumption) | assumption)
   have d8:b2 < (l0.length:Int):=of_decide_eq_true (by first | (with_reducible assumption) | assumption)
   obtain ⟨e8,h5,b9⟩:=Kd.at_int h6.out b2 d7 d8
   have b5:=b9
   cases h5
   replace b9:=(HB.out.cell (World.block_lt_of_cell? w _ b9)).trans b9
   replace d7:=eq_true d7
   replace d8:=eq_true d8
   refine start_ (n:=8) (S:=fun w'=>w'.cell? ⟨b3,0,none⟩ = some (.int .i64 ((rd_T23 b1 b2).f0)) ∧ w'.cell? ⟨b3,1,none⟩ = some (.int .i64 ((rd_T23 b1 b2).f1)) ∧ w'.cell? (e8.add (b2).toNat) = some (.int .i64 (rd l0 b2))) (ds:=[]) (ba 8 0) (by kernel_rfl) rfl rfl ⟨cz b4 0,cz b4 1,((HB.out.cell (World.block_lt_of_cell? w _ b5)).trans b5)⟩ (fun hHeld=>?_);refine with_tabW shares_Better.tab9 shares_Better.bits9 (fun HT_ HW_=>?_)
   generalize x5.drew = z3 at b6 b0 b4 HB b9 hHeld ⊢
   refine pq 1 37 2 HT_ ?_
   refine pq 2 38 6 HT_ ?_
   refine pq 3 39 14 HT_ ?_
   refine tq 0 36 15 HT_ HW_ hHeld ?_
   refine tq 4 40 31 HT_ HW_ hHeld ?_
   refine oq 5 41 63 HT_ (fun K hK=>?_)
   refine gq Try.func64 #[.int .i64 (rd l0 b2)] ?_
   with_reducible refine (shares_whole.calls (rd l0 b2) e2 e3 _ t1.out).mono ?_
   rintro e z4 ⟨rfl,hb⟩
   refine ⟨_,rfl,?_⟩
   replace b6:=rB b6 hb
   replace b0:=kB b0 hb
   replace b4:=kB b4 hb
   replace HB:=bB HB hb
   (try clear hb)
   refine hK.out _ _ ⟨cz b4 0,cz b4 1,((HB.out.cell (World.block_lt_of_cell? w _ b5)).trans b5)⟩ (fun hHeld=>?_)
   clear hK K
   refine nq 41 ?_
   refine oq 6 42 127 HT_ (fun K hK=>?_)
   refine gq Try.func85 #[.agg #[.int .i64 ((rd_T23 b1 b2).f0),.int .i64 ((rd_T23 b1 b2).f1)],.agg #[.int .i64 e2,.int .i64 e3]] ?_
   with_reducible refine (shares_compare.calls k1 ((rd_T23 b1 b2).f0) ((rd_T23 b1 b2).f1) e2 e3 d9 _ t2.out).mono ?_
   rintro e z5 ⟨rfl,hb⟩
   refine ⟨_,rfl,?_⟩
   replace b6:=rB b6 hb
   replace b0:=kB b0 hb
   replace b4:=kB b4 hb
   replace HB:=bB HB hb
   (try clear hb)
   refine hK.out _ _ ⟨cz b4 0,cz b4 1,((HB.out.cell (World.block_lt_of_cell? w _ b5)).trans b5)⟩ (fun hHeld=>?_)
   clear hK K
   refine nq 42 ?_
   refine pq 7 43 255 HT_ ?_
   refine done_ (done_of HT_.out (by kernel_rfl)) ?_
   try go_wp2
   go_roundg k1
   case measure=>have:=o4.out;omega
   case rel=>exact ⟨(wrap64 (b2 + 1)),(by first | rfl | (simp;done) | (simp [*];done)),H',⟨by have:=o4.out;omega⟩,⟨by (with_reducible repeat (first | apply Kd.R_alloc | apply Kd.R_drewN | apply Kd.R_drew));exact Kd.R_mono b6.out (fun _ hk=>trivial)⟩,⟨by (with_reducible repeat (first | refine blk_drewN ?_ _ | refine blk_drew ?_ | refine blk_alloc ?_ _));exact b0.out⟩,⟨bl HB⟩⟩
end Go.Proofs.Ytjohcjfmlhihbaa.G
namespace Go.Proofs.Ytjohcjfmlhihbaa.G
open Go.RowKit Go.Proofs.YtjohcjfmlhihbaaW.PrintWords Go.Proofs.YtjohcjfmlhihbaaW.PrintLast Go.Proofs.YtjohcjfmlhihbaaW.PrintMore
set_option maxHeartbeats 8000000
set_option maxRecDepth 100000
attribute [local go_sem] cond_true cond_false fld23_0 fld23_1 fld45_0 fld45_1 fld109_0 fld109_1 fld94_0 fld94_1 max2_int min2_int max_two min_two max_three min_three max_four min_four   -- for this text's walks alone
def numnahref07_Rates.l0:Nat → List (S45) → List (S23) → Int → Option (Bool)
 | 0,_,_,_=>none
 | k + 1,x0,x1,x5=>if x5 < (x1.length:Int) then (if 0 ≤ x5 then ((numnahref07_Within.f k ((rd_T23 x1 x5).f0) ((rd_T23 x1 x5).f1) 0 1000000 100).bind fun b5=>(if b5 = true then (numnahref07_Rates.l0 k x0 x1 (wrap64 (x5 + 1))) else (some false))) else (none)) else (some ((x1.length:Int) == (x0.length:Int)))
def numnahref07_Rates.f (k:Nat) (l0:List (S45)) (l1:List (S23)):Option (Bool):=numnahref07_Rates.l0 k l0 l1 0
theorem numnahref07_Rates.mono_l:∀ k,(∀ y0 y1 y2,LeO (numnahref07_Rates.l0 k y0 y1 y2) (numnahref07_Rates.l0 (k + 1) y0 y1 y2))
 | 0=>fun _ _ _ r h=>by simp [numnahref07_Rates.l0] at h
 | k + 1=>by
  have b8:=numnahref07_Rates.mono_l k
  intro y0 y1 y2
  unfold numnahref07_Rates.l0
  repeat' first
  | (with_reducible exact b8 _ _ _)
  | (with_reducible exact numnahref07_Within.mono _ _ _ _ _ _)
  | (with_reducible exact LeO.refl _)
  | (with_reducible exact LeO.none _)
  | (with_reducible refine LeO.ite ?_ ?_)
  | (with_reducible refine LeO.bind ?_ (fun _=>?_))
  | exact b8 _ _ _
  | exact numnahref07_Within.mono _ _ _ _ _ _
  | exact LeO.none _
  | refine LeO.ite ?_ ?_
  | refine LeO.bind ?_ (fun _=>?_)
theorem numnahref07_Rates.mono:∀ a0 a1 k,LeO (numnahref07_Rates.f k a0 a1) (numnahref07_Rates.f (k + 1) a0 a1):=by
 intro a0 a1 k
 have b8:=numnahref07_Rates.mono_l k
 unfold numnahref07_Rates.f
 repeat' first
   | (with_reducible exact b8 _ _ _)
   | (with_reducible exact numnahref07_Within.mono _ _ _ _ _ _)
   | (with_reducible exact LeO.refl _)
   | (with_reducible exact LeO.none _)
   | (with_reducible refine LeO.ite ?_ ?_)
   | (with_reducible refine LeO.bind ?_ (fun _=>?_))
   | exact b8 _ _ _
   | exact numnahref07_Within.mono _ _ _ _ _ _
   | exact LeO.none _
   | refine LeO.ite ?_ ?_
   | refine LeO.bind ?_ (fun _=>?_)
theorem numnahref07_Rates.calls (k:Nat) (A0:Option Addr) (c0:Nat) (l0:List (S45)) (A1:Option Addr) (c1:Nat) (l1:List (S23)) (r:Bool) (w:World) (d1:Kd.C k45 w A0 l0.length l0) (d2:l0.length ≤ c0) (d3:Kd.C k23 w A1 l1.length l1) (d4:l1.length ≤ c1) (h:numnahref07_Rates.f k l0 l1 = some r) :
  Calls Try.prog 59 #[.slice A0 l0.length c0,.slice A1 l1.length c1] w fun e w'=>e = .returned (.bool r) ∧ Below w.heap.size w w':=by
 have d8:=Try.underlying23
 have e0:=Aside0.mk d1
 have e1:=Aside0.mk d2
 clear d1 d2
 have d5:=Aside0.mk d3
 have e2:=Aside0.mk d4
 clear d3 d4
 have HB:=Aside0.mk (Below.refl w.heap.size w)
 have H:(numnahref07_Rates.l0 k l0 l1 0) = some r:=h
 clear h
 have H':=Aside0.mk H
 clear H
 go_enter Try.func59,Try.ntmps59
 go_wp2
 go_loopg [5] k (fun kq v5 w'=>∃ (b0:Int),v5 = .int .i64 b0 ∧ Aside0 (numnahref07_Rates.l0 kq l0 l1 b0 = some r) ∧ Aside0 (kq ≤ k) ∧ Aside0 (Below w.heap.size w w'))
 case atStart=>exact ⟨(0),(by first | rfl | (simp;done) | (simp [*];done)),H',⟨Nat.le_refl _⟩,⟨by repeat (first | (with_reducible first | exact HB.out | apply below_alloc | apply pw_below_drewN | apply below_drew1) | exact HB.out)⟩⟩
 case round =>
  clear H'
  try clear c1
  try clear p2
  obtain ⟨b0,rfl,HA,d6,HB⟩:=hrel
  cases gk with
  | zero=>exact absurd HA.out (by simp [numnahref07_Rates.l0])
  | succ k1 =>
   have H:=HA.out
   clear HA
   simp only [numnahref07_Rates.l0] at H
   by_cases c3:b0 < (l1.length:Int)
   case neg =>
    rw [if_neg c3] at H
    have d0:decide (b0 < (l1.length:Int)) = false:=decide_eq_false c3
    clear c3
    obtain rfl:=Option.some.inj H
    go_wp2
    go_ret
    exact ⟨by first | rfl | (simp [errW_none,errW_some] <;> rfl) | (simp [*,errW_none,errW_some] <;> rfl),by repeat (first | (with_reducible first | exact HB.out | apply below_alloc | apply pw_below_drewN | apply below_drew1) | exact HB.out)⟩
   rw [if_pos c3] at H
   have d0:decide (b0 < (l1.length:Int)) = true:=decide_eq_true c3
   clear c3
   by_cases c4:0 ≤ b0
   case neg =>
    rw [if_neg c4] at H
    exact absurd H (by simp)
   rw [if_pos c4] at H
   have d9:decide (0 ≤ b0) = true:=decide_eq_true c4
   clear c4
   replace H:=Option.bind_eq_some_iff.mp H
   obtain ⟨b5,d7,H⟩:=H
   replace H:(if b5 = true then (numnahref07_Rates.l0 k1 l0 l1 (wrap64 (b0 + 1))) else (some false)) = some r:=H
   have A5:=Aside0.mk d7
   clear d7
   by_cases c6:b5 = true
   case neg =>
    replace c6:=Bool.eq_false_iff.mpr c6
    subst c6
    have H1:(some false) = some r:=by rw [if_neg (show ¬ (false = true) by decide)] at H;exact H
    clear H
    have H:=H1
    clear H1
    obtain rfl:=Option.some.inj H
    have b3:0 ≤ (b0:Int):=of_decide_eq_true (by first | (with_reducible assumption) | assumption)
    have b4:b0 < (l1.length:Int):=of_decide_eq_true (by first | (with_reducible assumption) | assumption)
    obtain ⟨b7,b6,b1,b2⟩:=at_T23 d5.out b0 b3 b4
    cases b6
    replace b1:=(HB.out.cell (World.block_lt_of_cell? w _ b1)).trans b1
    replace b2:=(HB.out.cell (World.block_lt_of_cell? w _ b2)).trans b2
    replace b3:=eq_true b3
    replace b4:=eq_true b4
    go_wp2_with (first | ((with_reducible refine gate_callee (f:=69) rfl ?_);refine goesL_ (some 16) rfl rfl Try.func69 (by kernel_rfl) rfl #[.agg #[.int .i64 ((rd_T23 l1 b0).f0),.int .i64 ((rd_T23 l1 b0).f1)],.int .i64 0,.int .i64 1000000,.int .i64 100] rfl (by (try simp only [List.map_toArray,List.map_cons,List.map_nil]);first | done | rfl | (simp only [List.length_drop,List.length_take];rfl)) ?_;(with_reducible refine (numnahref07_Within.calls k1 ((rd_T23 l1 b0).f0) ((rd_T23 l1 b0).f1) 0 1000000 100 false _ A5.out).mono ?_);rintro e w8 ⟨rfl,hb⟩;refine ⟨_,rfl,?_⟩;have b9:=Aside0.mk (below_step (by repeat (first | (with_reducible first | exact HB.out | apply below_alloc | apply pw_below_drewN | apply below_drew1) | exact HB.out)) hb);clear HB;have HB:=b9;clear b9;(try clear hb)))
    go_ret
    exact ⟨by first | rfl | (simp [errW_none,errW_some] <;> rfl) | (simp [*,errW_none,errW_some] <;> rfl),by repeat (first | (with_reducible first | exact HB.out | apply below_alloc | apply pw_below_drewN | apply below_drew1) | exact HB.out)⟩
   subst c6
   have H1:(numnahref07_Rates.l0 k1 l0 l1 (wrap64 (b0 + 1))) = some r:=by rw [if_pos rfl] at H;exact H
   clear H
   have H:=H1
   clear H1
   have H':=Aside0.mk H
   clear H
   have b3:0 ≤ (b0:Int):=of_decide_eq_true (by first | (with_reducible assumption) | assumption)
   have b4:b0 < (l1.length:Int):=of_decide_eq_true (by first | (with_reducible assumption) | assumption)
   obtain ⟨b7,b6,b1,b2⟩:=at_T23 d5.out b0 b3 b4
   cases b6
   replace b1:=(HB.out.cell (World.block_lt_of_cell? w _ b1)).trans b1
   replace b2:=(HB.out.cell (World.block_lt_of_cell? w _ b2)).trans b2
   replace b3:=eq_true b3
   replace b4:=eq_true b4
   go_wp2_with (first | ((with_reducible refine gate_callee (f:=69) rfl ?_);refine goesL_ (some 16) rfl rfl Try.func69 (by kernel_rfl) rfl #[.agg #[.int .i64 ((rd_T23 l1 b0).f0),.int .i64 ((rd_T23 l1 b0).f1)],.int .i64 0,.int .i64 1000000,.int .i64 100] rfl (by (try simp only [List.map_toArray,List.map_cons,List.map_nil]);first | done | rfl | (simp only [List.length_drop,List.length_take];rfl)) ?_;(with_reducible refine (numnahref07_Within.calls k1 ((rd_T23 l1 b0).f0) ((rd_T23 l1 b0).f1) 0 1000000 100 true _ A5.out).mono ?_);rintro e w7 ⟨rfl,hb⟩;refine ⟨_,rfl,?_⟩;have b9:=Aside0.mk (below_step (by repeat (first | (with_reducible first | exact HB.out | apply below_alloc | apply pw_below_drewN | apply below_drew1) | exact HB.out)) hb);clear HB;have HB:=b9;clear b9;(try clear hb)))
   go_roundg k1
   case measure=>have:=d6.out;omega
   case rel=>exact ⟨(wrap64 (b0 + 1)),(by first | rfl | (simp;done) | (simp [*];done)),H',⟨by have:=d6.out;omega⟩,⟨by repeat (first | (with_reducible first | exact HB.out | apply below_alloc | apply pw_below_drewN | apply below_drew1) | exact HB.out)⟩⟩
end Go.Proofs.Ytjohcjfmlhihbaa.G
namespace Go.Proofs.Ytjohcjfmlhihbaa.G
open Go.RowKit Go.Proofs.YtjohcjfmlhihbaaW.PrintWords Go.Proofs.YtjohcjfmlhihbaaW.PrintLast Go.Proofs.YtjohcjfmlhihbaaW.PrintMore
set_option maxHeartbeats 8000000
set_option maxRecDepth 100000
attribute [local go_sem] cond_true cond_false fld23_0 fld23_1 fld45_0 fld45_1 fld109_0 fld109_1 fld94_0 fld94_1 max2_int min2_int max_two min_two max_three min_three max_four min_four
def numnahref07_Possible.l0:Nat → List Int → List (S45) → List (S23) → Int → Option (Bool)
 | 0,_,_,_,_=>none
 | k + 1,x0,x1,x2,x7=>if x7 < (x0.length:Int) then ((numnahref07_Load.f k x1 x2 x7).bind fun e3=>(if 0 ≤ x7 then (if e3.1 > (wrap64 ((rd x0 x7) * e3.2)) then (some false) else (numnahref07_Possible.l0 k x0 x1 x2 (wrap64 (x7 + 1)))) else (none))) else (some true)
def numnahref07_Possible.f (k:Nat) (l0:List Int) (l1:List (S45)) (l2:List (S23)):Option (Bool):=numnahref07_Possible.l0 k l0 l1 l2 0
theorem numnahref07_Possible.mono_l:∀ k,(∀ y0 y1 y2 y3,LeO (numnahref07_Possible.l0 k y0 y1 y2 y3) (numnahref07_Possible.l0 (k + 1) y0 y1 y2 y3))
 | 0=>fun _ _ _ _ r h=>by simp [numnahref07_Possible.l0] at h
 | k + 1=>by
  have h0:=numnahref07_Possible.mono_l k
  intro y0 y1 y2 y3
  unfold numnahref07_Possible.l0
  repeat' first
  | (with_reducible first | exact h0 _ _ _ _ | exact numnahref07_Load.mono _ _ _ _ | exact LeO.refl _ | exact LeO.none _ | refine LeO.ite ?_ ?_ | refine LeO.bind ?_ (fun _=>?_))
  | exact LeO.none _ | refine LeO.ite ?_ ?_ | refine LeO.bind ?_ (fun _=>?_)
theorem numnahref07_Possible.mono:∀ a0 a1 a2 k,LeO (numnahref07_Possible.f k a0 a1 a2) (numnahref07_Possible.f (k + 1) a0 a1 a2):=by
 intro a0 a1 a2 k
 have h0:=numnahref07_Possible.mono_l k
 unfold numnahref07_Possible.f
 repeat' first
   | (with_reducible first | exact h0 _ _ _ _ | exact numnahref07_Load.mono _ _ _ _ | exact LeO.refl _ | exact LeO.none _ | refine LeO.ite ?_ ?_ | refine LeO.bind ?_ (fun _=>?_))
   | exact LeO.none _ | refine LeO.ite ?_ ?_ | refine LeO.bind ?_ (fun _=>?_)
theorem numnahref07_Possible.calls (k:Nat) (A0:Option Addr) (c0:Nat) (l0:List Int) (A1:Option Addr) (c1:Nat) (l1:List (S45)) (A2:Option Addr) (c2:Nat) (l2:List (S23)) (r:Bool) (w:World) (h3:Kd.C (Kd.int .i64) w A0 l0.length l0) (h4:l0.length ≤ c0) (h5:Kd.C k45 w A1 l1.length l1) (h6:l1.length ≤ c1) (h7:Kd.C k23 w A2 l2.length l2) (h8:l2.length ≤ c2) (h:numnahref07_Possible.f k l0 l1 l2 = some r) :
  Calls Try.prog 61 #[.slice A0 l0.length c0,.slice A1 l1.length c1,.slice A2 l2.length c2] w fun e w'=>e = .returned (.bool r) ∧ Below w.heap.size w w':=by
 have i1:=Try.underlying23
 have e5:=A_ h3
 have i3:=A_ h4
 clear h3 h4
 have e6:=A_ h5
 have e7:=A_ h6
 clear h5 h6
 have e8:=A_ h7
 have e9:=A_ h8
 clear h7 h8
 have HB:=A_ (Below.refl w.heap.size w)
 have H:(numnahref07_Possible.l0 k l0 l1 l2 0) = some r:=h
 clear h
 have H':=A_ H
 clear H
 go_enter Try.func61,Try.ntmps61
 go_wp2
 repeat (go_quiet (fail);try go_wp2)
 go_loopg [7] k (fun kq v7 w'=>∃ (b9:Int),v7 = .int .i64 b9 ∧ Aside0 (numnahref07_Possible.l0 kq l0 l1 l2 b9 = some r) ∧ Aside0 (kq ≤ k) ∧ Aside0 (Below w.heap.size w w'))
 case atStart=>exact ⟨(0),(by first | rfl | (simp;done) | (simp [*];done)),H',⟨Nat.le_refl _⟩,⟨bl HB⟩⟩
 case round =>
  clear H'
  obtain ⟨b9,rfl,HA,h9,HB⟩:=hrel
  cases gk with
  | zero=>exact absurd HA.out (by simp [numnahref07_Possible.l0])
  | succ k1 =>
   have H:=HA.out
   clear HA
   simp only [numnahref07_Possible.l0] at H
   by_cases c4:b9 < (l0.length:Int)
   case neg =>
    rw [if_neg c4] at H
    have h1:=decide_eq_false c4
    clear c4
    obtain rfl:=Option.some.inj H
    go_wp2
    repeat (go_quiet (fail);try go_wp2)
    go_ret
    exact ⟨by first | rfl | (simp [errW_none,errW_some] <;> rfl) | (simp [*,errW_none,errW_some] <;> rfl),bl HB⟩
   rw [if_pos c4] at H
   have h1:=decide_eq_true c4
   clear c4
   replace H:=Option.bind_eq_some_iff.mp H
   obtain ⟨⟨d0,d1⟩,A50,H⟩:=H
   dsimp only at H
   have A5:=A_ A50
   clear A50
   replace H:=gd H
   obtain ⟨c6,H⟩:=H
   have i2:=decide_eq_true c6
   clear c6
   by_cases c7:d0 > (wrap64 ((rd l0 b9) * d1))
   ·rw [if_pos c7] at H
    have h2:=decide_eq_true c7
    clear c7
    obtain rfl:=Option.some.inj H
    go_wp2_with (first | (go_at_call 60;(with_reducible refine (numnahref07_Load.calls k1 _ _ l1 _ _ l2 b9 d0 d1 _ ?side1 ?side2 ?side3 ?side4 A5.out).mono ?_);(case side1=>exact cB e6 HB);(case side2=>exact e7.out);(case side3=>exact cB e8 HB);(case side4=>exact e9.out);rintro e w8 ⟨rfl,hb⟩;replace HB:=bB HB hb;(try clear hb)) | ((with_reducible refine gate_dst (N:=8) rfl ?_);refine bx 8 #[.int .i64 0,.int .i64 0] 23 ?_;intro b1 hg w9 hbox hb;have b4:=A_ hbox;have b5:=gw hg HB;have d4:=b5;replace HB:=bB HB hb;clear hb hbox hg;have d5:w9.cell? ⟨b1,0,none⟩ = some (.int .i64 0):=cz b4 0;have d6:w9.cell? ⟨b1,1,none⟩ = some (.int .i64 0):=cz b4 1;have d7:=blk_frozen b4.out 0;have d8:=blk_frozen b4.out 1;have b6:0 ≤ (b9:Int):=of_decide_eq_true (by first | (with_reducible assumption) | assumption);have b7:b9 < (l0.length:Int):=of_decide_eq_true (by first | (with_reducible assumption) | assumption);obtain ⟨b8,d2,b0⟩:=Kd.at_int e5.out b9 b6 b7;cases d2;have b2:b8.block ≠ b1:=Nat.ne_of_lt (Nat.lt_of_lt_of_le (by have:=World.block_lt_of_cell? _ _ b0;first | rwa [add_block] at this | exact this) b5.out);have b3:b8.block ≠ b1:=Nat.ne_of_lt (Nat.lt_of_lt_of_le (by have:=World.block_lt_of_cell? _ _ b0;first | rwa [add_block] at this | exact this) b5.out);replace b0:=(HB.out.cell (World.block_lt_of_cell? w _ b0)).trans b0;replace b0:=(cell_far (p:=⟨b1,0,none⟩) (by first | (rw [add_block];exact b2) | (show (Addr.add _ _).block ≠ _;rw [add_block];exact b2) | exact b2) (.int .i64 d0)).trans b0;replace b0:=(cell_far (p:=⟨b1,1,none⟩) (by first | (rw [add_block];exact b3) | (show (Addr.add _ _).block ≠ _;rw [add_block];exact b3) | exact b3) (.int .i64 d1)).trans b0;(try have d3:=fun (n_:Nat)=>(show ((((w9.drewN n_).setCell ⟨b1,0,none⟩ (.int .i64 d0)).setCell ⟨b1,1,none⟩ (.int .i64 d1))).cell? _ = some _ from b0));clear b2;clear b3;replace b6:=eq_true b6;replace b7:=eq_true b7))
    repeat (go_quiet (first | (go_at_call 60;(with_reducible refine (numnahref07_Load.calls k1 _ _ l1 _ _ l2 b9 d0 d1 _ ?side1 ?side2 ?side3 ?side4 A5.out).mono ?_);(case side1=>exact cB e6 HB);(case side2=>exact e7.out);(case side3=>exact cB e8 HB);(case side4=>exact e9.out);rintro e w8 ⟨rfl,hb⟩;replace HB:=bB HB hb;(try clear hb)) | ((with_reducible refine gate_dst (N:=8) rfl ?_);refine bx 8 #[.int .i64 0,.int .i64 0] 23 ?_;intro b1 hg w9 hbox hb;have b4:=A_ hbox;have b5:=gw hg HB;have d4:=b5;replace HB:=bB HB hb;clear hb hbox hg;have d5:w9.cell? ⟨b1,0,none⟩ = some (.int .i64 0):=cz b4 0;have d6:w9.cell? ⟨b1,1,none⟩ = some (.int .i64 0):=cz b4 1;have d7:=blk_frozen b4.out 0;have d8:=blk_frozen b4.out 1;have b6:0 ≤ (b9:Int):=of_decide_eq_true (by first | (with_reducible assumption) | assumption);have b7:b9 < (l0.length:Int):=of_decide_eq_true (by first | (with_reducible assumption) | assumption);obtain ⟨b8,d2,b0⟩:=Kd.at_int e5.out b9 b6 b7;cases d2;have b2:b8.block ≠ b1:=Nat.ne_of_lt (Nat.lt_of_lt_of_le (by have:=World.block_lt_of_cell? _ _ b0;first | rwa [add_block] at this | exact this) b5.out);have b3:b8.block ≠ b1:=Nat.ne_of_lt (Nat.lt_of_lt_of_le (by have:=World.block_lt_of_cell? _ _ b0;first | rwa [add_block] at this | exact this) b5.out);replace b0:=(HB.out.cell (World.block_lt_of_cell? w _ b0)).trans b0;replace b0:=(cell_far (p:=⟨b1,0,none⟩) (by first | (rw [add_block];exact b2) | (show (Addr.add _ _).block ≠ _;rw [add_block];exact b2) | exact b2) (.int .i64 d0)).trans b0;replace b0:=(cell_far (p:=⟨b1,1,none⟩) (by first | (rw [add_block];exact b3) | (show (Addr.add _ _).block ≠ _;rw [add_block];exact b3) | exact b3) (.int .i64 d1)).trans b0;(try have d3:=fun (n_:Nat)=>(show ((((w9.drewN n_).setCell ⟨b1,0,none⟩ (.int .i64 d0)).setCell ⟨b1,1,none⟩ (.int .i64 d1))).cell? _ = some _ from b0));clear b2;clear b3;replace b6:=eq_true b6;replace b7:=eq_true b7));try go_wp2_with (first | (go_at_call 60;(with_reducible refine (numnahref07_Load.calls k1 _ _ l1 _ _ l2 b9 d0 d1 _ ?side1 ?side2 ?side3 ?side4 A5.out).mono ?_);(case side1=>exact cB e6 HB);(case side2=>exact e7.out);(case side3=>exact cB e8 HB);(case side4=>exact e9.out);rintro e w8 ⟨rfl,hb⟩;replace HB:=bB HB hb;(try clear hb)) | ((with_reducible refine gate_dst (N:=8) rfl ?_);refine bx 8 #[.int .i64 0,.int .i64 0] 23 ?_;intro b1 hg w9 hbox hb;have b4:=A_ hbox;have b5:=gw hg HB;have d4:=b5;replace HB:=bB HB hb;clear hb hbox hg;have d5:w9.cell? ⟨b1,0,none⟩ = some (.int .i64 0):=cz b4 0;have d6:w9.cell? ⟨b1,1,none⟩ = some (.int .i64 0):=cz b4 1;have d7:=blk_frozen b4.out 0;have d8:=blk_frozen b4.out 1;have b6:0 ≤ (b9:Int):=of_decide_eq_true (by first | (with_reducible assumption) | assumption);have b7:b9 < (l0.length:Int):=of_decide_eq_true (by first | (with_reducible assumption) | assumption);obtain ⟨b8,d2,b0⟩:=Kd.at_int e5.out b9 b6 b7;cases d2;have b2:b8.block ≠ b1:=Nat.ne_of_lt (Nat.lt_of_lt_of_le (by have:=World.block_lt_of_cell? _ _ b0;first | rwa [add_block] at this | exact this) b5.out);have b3:b8.block ≠ b1:=Nat.ne_of_lt (Nat.lt_of_lt_of_le (by have:=World.block_lt_of_cell? _ _ b0;first | rwa [add_block] at this | exact this) b5.out);replace b0:=(HB.out.cell (World.block_lt_of_cell? w _ b0)).trans b0;replace b0:=(cell_far (p:=⟨b1,0,none⟩) (by first | (rw [add_block];exact b2) | (show (Addr.add _ _).block ≠ _;rw [add_block];exact b2) | exact b2) (.int .i64 d0)).trans b0;replace b0:=(cell_far (p:=⟨b1,1,none⟩) (by first | (rw [add_block];exact b3) | (show (Addr.add _ _).block ≠ _;rw [add_block];exact b3) | exact b3) (.int .i64 d1)).trans b0;(try have d3:=fun (n_:Nat)=>(show ((((w9.drewN n_).setCell ⟨b1,0,none⟩ (.int .i64 d0)).setCell ⟨b1,1,none⟩ (.int .i64 d1))).cell? _ = some _ from b0));clear b2;clear b3;replace b6:=eq_true b6;replace b7:=eq_true b7)))
    go_ret
    exact ⟨by first | rfl | (simp [errW_none,errW_some] <;> rfl) | (simp [*,errW_none,errW_some] <;> rfl),bl HB⟩
   rw [if_neg c7] at H
   have h2:=decide_eq_false c7
   clear c7
   have H':=A_ H
   clear H
   go_wp2_with (first | (go_at_call 60;(with_reducible refine (numnahref07_Load.calls k1 _ _ l1 _ _ l2 b9 d0 d1 _ ?side1 ?side2 ?side3 ?side4 A5.out).mono ?_);(case side1=>exact cB e6 HB);(case side2=>exact e7.out);(case side3=>exact cB e8 HB);(case side4=>exact e9.out);rintro e i0 ⟨rfl,hb⟩;replace HB:=bB HB hb;(try clear hb)) | ((with_reducible refine gate_dst (N:=8) rfl ?_);refine bx 8 #[.int .i64 0,.int .i64 0] 23 ?_;intro b1 hg e4 hbox hb;have b4:=A_ hbox;have b5:=gw hg HB;have d4:=b5;replace HB:=bB HB hb;clear hb hbox hg;have d9:e4.cell? ⟨b1,0,none⟩ = some (.int .i64 0):=cz b4 0;have e0:e4.cell? ⟨b1,1,none⟩ = some (.int .i64 0):=cz b4 1;have e1:=blk_frozen b4.out 0;have e2:=blk_frozen b4.out 1;have b6:0 ≤ (b9:Int):=of_decide_eq_true (by first | (with_reducible assumption) | assumption);have b7:b9 < (l0.length:Int):=of_decide_eq_true (by first | (with_reducible assumption) | assumption);obtain ⟨b8,d2,b0⟩:=Kd.at_int e5.out b9 b6 b7;cases d2;have b2:b8.block ≠ b1:=Nat.ne_of_lt (Nat.lt_of_lt_of_le (by have:=World.block_lt_of_cell? _ _ b0;first | rwa [add_block] at this | exact this) b5.out);have b3:b8.block ≠ b1:=Nat.ne_of_lt (Nat.lt_of_lt_of_le (by have:=World.block_lt_of_cell? _ _ b0;first | rwa [add_block] at this | exact this) b5.out);replace b0:=(HB.out.cell (World.block_lt_of_cell? w _ b0)).trans b0;replace b0:=(cell_far (p:=⟨b1,0,none⟩) (by first | (rw [add_block];exact b2) | (show (Addr.add _ _).block ≠ _;rw [add_block];exact b2) | exact b2) (.int .i64 d0)).trans b0;replace b0:=(cell_far (p:=⟨b1,1,none⟩) (by first | (rw [add_block];exact b3) | (show (Addr.add _ _).block ≠ _;rw [add_block];exact b3) | exact b3) (.int .i64 d1)).trans b0;(try have d3:=fun (n_:Nat)=>(show ((((e4.drewN n_).setCell ⟨b1,0,none⟩ (.int .i64 d0)).setCell ⟨b1,1,none⟩ (.int .i64 d1))).cell? _ = some _ from b0));clear b2;clear b3;replace b6:=eq_true b6;replace b7:=eq_true b7))
   repeat (go_quiet (first | (go_at_call 60;(with_reducible refine (numnahref07_Load.calls k1 _ _ l1 _ _ l2 b9 d0 d1 _ ?side1 ?side2 ?side3 ?side4 A5.out).mono ?_);(case side1=>exact cB e6 HB);(case side2=>exact e7.out);(case side3=>exact cB e8 HB);(case side4=>exact e9.out);rintro e i0 ⟨rfl,hb⟩;replace HB:=bB HB hb;(try clear hb)) | ((with_reducible refine gate_dst (N:=8) rfl ?_);refine bx 8 #[.int .i64 0,.int .i64 0] 23 ?_;intro b1 hg e4 hbox hb;have b4:=A_ hbox;have b5:=gw hg HB;have d4:=b5;replace HB:=bB HB hb;clear hb hbox hg;have d9:e4.cell? ⟨b1,0,none⟩ = some (.int .i64 0):=cz b4 0;have e0:e4.cell? ⟨b1,1,none⟩ = some (.int .i64 0):=cz b4 1;have e1:=blk_frozen b4.out 0;have e2:=blk_frozen b4.out 1;have b6:0 ≤ (b9:Int):=of_decide_eq_true (by first | (with_reducible assumption) | assumption);have b7:b9 < (l0.length:Int):=of_decide_eq_true (by first | (with_reducible assumption) | assumption);obtain ⟨b8,d2,b0⟩:=Kd.at_int e5.out b9 b6 b7;cases d2;have b2:b8.block ≠ b1:=Nat.ne_of_lt (Nat.lt_of_lt_of_le (by have:=World.block_lt_of_cell? _ _ b0;first | rwa [add_block] at this | exact this) b5.out);have b3:b8.block ≠ b1:=Nat.ne_of_lt (Nat.lt_of_lt_of_le (by have:=World.block_lt_of_cell? _ _ b0;first | rwa [add_block] at this | exact this) b5.out);replace b0:=(HB.out.cell (World.block_lt_of_cell? w _ b0)).trans b0;replace b0:=(cell_far (p:=⟨b1,0,none⟩) (by first | (rw [add_block];exact b2) | (show (Addr.add _ _).block ≠ _;rw [add_block];exact b2) | exact b2) (.int .i64 d0)).trans b0;replace b0:=(cell_far (p:=⟨b1,1,none⟩) (by first | (rw [add_block];exact b3) | (show (Addr.add _ _).block ≠ _;rw [add_block];exact b3) | exact b3) (.int .i64 d1)).trans b0;(try have d3:=fun (n_:Nat)=>(show ((((e4.drewN n_).setCell ⟨b1,0,none⟩ (.int .i64 d0)).setCell ⟨b1,1,none⟩ (.int .i64 d1))).cell? _ = some _ from b0));clear b2;clear b3;replace b6:=eq_true b6;replace b7:=eq_true b7));try go_wp2_with (first | (go_at_call 60;(with_reducible refine (numnahref07_Load.calls k1 _ _ l1 _ _ l2 b9 d0 d1 _ ?side1 ?side2 ?side3 ?side4 A5.out).mono ?_);(case side1=>exact cB e6 HB);(case side2=>exact e7.out);(case side3=>exact cB e8 HB);(case side4=>exact e9.out);rintro e i0 ⟨rfl,hb⟩;replace HB:=bB HB hb;(try clear hb)) | ((with_reducible refine gate_dst (N:=8) rfl ?_);refine bx 8 #[.int .i64 0,.int .i64 0] 23 ?_;intro b1 hg e4 hbox hb;have b4:=A_ hbox;have b5:=gw hg HB;have d4:=b5;replace HB:=bB HB hb;clear hb hbox hg;have d9:e4.cell? ⟨b1,0,none⟩ = some (.int .i64 0):=cz b4 0;have e0:e4.cell? ⟨b1,1,none⟩ = some (.int .i64 0):=cz b4 1;have e1:=blk_frozen b4.out 0;have e2:=blk_frozen b4.out 1;have b6:0 ≤ (b9:Int):=of_decide_eq_true (by first | (with_reducible assumption) | assumption);have b7:b9 < (l0.length:Int):=of_decide_eq_true (by first | (with_reducible assumption) | assumption);obtain ⟨b8,d2,b0⟩:=Kd.at_int e5.out b9 b6 b7;cases d2;have b2:b8.block ≠ b1:=Nat.ne_of_lt (Nat.lt_of_lt_of_le (by have:=World.block_lt_of_cell? _ _ b0;first | rwa [add_block] at this | exact this) b5.out);have b3:b8.block ≠ b1:=Nat.ne_of_lt (Nat.lt_of_lt_of_le (by have:=World.block_lt_of_cell? _ _ b0;first | rwa [add_block] at this | exact this) b5.out);replace b0:=(HB.out.cell (World.block_lt_of_cell? w _ b0)).trans b0;replace b0:=(cell_far (p:=⟨b1,0,none⟩) (by first | (rw [add_block];exact b2) | (show (Addr.add _ _).block ≠ _;rw [add_block];exact b2) | exact b2) (.int .i64 d0)).trans b0;replace b0:=(cell_far (p:=⟨b1,1,none⟩) (by first | (rw [add_block];exact b3) | (show (Addr.add _ _).block ≠ _;rw [add_block];exact b3) | exact b3) (.int .i64 d1)).trans b0;(try have d3:=fun (n_:Nat)=>(show ((((e4.drewN n_).setCell ⟨b1,0,none⟩ (.int .i64 d0)).setCell ⟨b1,1,none⟩ (.int .i64 d1))).cell? _ = some _ from b0));clear b2;clear b3;replace b6:=eq_true b6;replace b7:=eq_true b7)))
   go_roundg k1
   case measure=>have:=h9.out;omega
   case rel=>exact ⟨(wrap64 (b9 + 1)),(by first | rfl | (simp;done) | (simp [*];done)),H',⟨by have:=h9.out;omega⟩,⟨bl HB⟩⟩
end Go.Proofs.Ytjohcjfmlhihbaa.G
namespace Go.Proofs.Ytjohcjfmlhihbaa.G
open Go.RowKit Go.Proofs.YtjohcjfmlhihbaaW.PrintWords Go.Proofs.YtjohcjfmlhihbaaW.PrintLast Go.Proofs.YtjohcjfmlhihbaaW.PrintMore
attribute [local go_sem] max2_int min2_int max_two min_two max_three min_three max_four min_four   -- for this text's walks alone
set_option linter.unusedVariables false
set_option linter.unusedSimpArgs false
def numnahlaw07_list.f (l0:List Int):Option ((List Int)):=if 0 ≤ (mn (l0.length:Int) 11) then (if (mn (l0.length:Int) 11) ≤ (l0.length:Int) then ((some (l0.take ((mn (l0.length:Int) 11):Int).toNat:List Int)).bind fun y101=>(if ([]:List Int).length + y101.length < 8796093022208 then (some (([]:List Int) ++ y101)) else (none))) else (none)) else (none)
set_option maxHeartbeats 8000000 in
set_option maxRecDepth 100000 in
theorem numnahlaw07_list.calls (A0:Option Addr) (c0:Nat) (l0:List Int) (r:List Int) (w:World) (hr0:Kd.C (Kd.int .i64) w A0 l0.length l0) (hc0:l0.length ≤ c0) (h:numnahlaw07_list.f l0 = some r) :
  Calls Try.prog 35 #[.slice A0 l0.length c0] w fun e w'=>∃ v0_:Value,e = .returned (v0_) ∧ Kd.R (Kd.int .i64) 3 w' w.heap.size (fun _=>True) v0_ r ∧ Below w.heap.size w w':=by
 have HR0:=Aside0.mk hr0
 have HC0:=Aside0.mk hc0
 clear hr0 hc0
 have HB:=Aside0.mk (Below.refl w.heap.size w)
 have H:(if 0 ≤ (mn (l0.length:Int) 11) then (if (mn (l0.length:Int) 11) ≤ (l0.length:Int) then ((some (l0.take ((mn (l0.length:Int) 11):Int).toNat:List Int)).bind fun y101=>(if ([]:List Int).length + y101.length < 8796093022208 then (some (([]:List Int) ++ y101)) else (none))) else (none)) else (none)) = some r:=h
 clear h
 obtain ⟨ji2,hji2⟩:∃ j_:Int,(mn (l0.length:Int) 11) = j_:=⟨_,rfl⟩
 replace H:(if 0 ≤ (ji2) then (if (ji2) ≤ (l0.length:Int) then ((some (l0.take ((ji2):Int).toNat:List Int)).bind fun y101=>(if ([]:List Int).length + y101.length < 8796093022208 then (some (([]:List Int) ++ y101)) else (none))) else (none)) else (none)) = some r:=by first | (rw [hji2] at H;exact H) | (simp only [hji2] at H ⊢;exact H)
 (try (have hji2h:ji2 ≤ 11:=by (rw [← hji2];unfold mn;(repeat' split) <;> omega)))
 (try (have hji2g:ji2 ≤ 64:=by omega))
 (try (have hji2l:0 ≤ ji2:=by (rw [← hji2];unfold mn;(repeat' split) <;> omega)))
 (try (have hji2m:0 ≤ ji2:=by omega))
 have hji2_:(if 11 < (l0.length:Int) then 11 else (l0.length:Int)) = ji2:=hji2
 by_cases c3:0 ≤ (ji2)
 ·rw [if_pos c3] at H
  have c3b0:=eq_true c3
  have c3b1:decide (0 ≤ (ji2)) = true:=decide_eq_true c3
  clear c3
  by_cases c4:(ji2) ≤ (l0.length:Int)
  ·rw [if_pos c4] at H
   have c4b0:=eq_true c4
   have c4b1:decide ((ji2) ≤ (l0.length:Int)) = true:=decide_eq_true c4
   clear c4
   obtain ⟨y101,hy101⟩:∃ y_:List Int,y_ = (l0.take ((ji2):Int).toNat):=⟨_,rfl⟩
   replace H:(if ([]:List Int).length + y101.length < 8796093022208 then (some (([]:List Int) ++ y101)) else (none)) = some r:=by first | (rw [hy101];with_reducible exact H) | (have H2_:=(Option.bind_some _ _).symm.trans H;rw [hy101];with_reducible exact H2_) | (have H2_:=(Option.bind_some _ _).symm.trans H;with_reducible exact H2_) | with_reducible exact H | (rw [hy101];exact H) | exact H
   have Ny101:=Aside0.mk hy101
   clear hy101
   by_cases c5:([]:List Int).length + y101.length < 8796093022208
   ·rw [if_pos c5] at H
    have LMc5:=Aside0.mk c5
    clear c5
    obtain ⟨y105,hy105⟩:∃ y_:List Int,y_ = (([]:List Int) ++ y101):=⟨_,rfl⟩
    replace H:(some y105) = some r:=by first | (rw [hy105];with_reducible exact H) | (have H2_:=(Option.bind_some _ _).symm.trans H;rw [hy105];with_reducible exact H2_) | (have H2_:=(Option.bind_some _ _).symm.trans H;with_reducible exact H2_) | with_reducible exact H | (rw [hy105];exact H) | exact H
    have Ny105:=Aside0.mk hy105
    clear hy105
    obtain rfl:=Option.some.inj H
    have q6:((ji2):Int) ≤ ((l0.length:Int):Int):=of_decide_eq_true (by first | (with_reducible assumption) | assumption)
    obtain ⟨i06,hi06,_,hsz6,_⟩:=info_parts info3
    have hroom6:l0.length ≤ c0:=HC0.out
    have hC6:Kd.C (Kd.int .i64) _ A0 l0.length l0:=HR0.out
    have hcut6:=cut_to (P:=Try.prog) 28 3 .i64 Try.underlying28 hi06 A0 l0.length c0 (ji2) (of_decide_eq_true (by first | (with_reducible assumption) | assumption)) q6 hroom6
    have hr6:=Kd.C_take (m:=((ji2):Int).toNat) hC6 (by omega)
    have hy6:y101.length = ((ji2):Int).toNat:=(by rw [Ny101.out,List.length_take];omega)
    rw [← Ny101.out] at hr6
    rw [← hy6] at hcut6
    have HR104:=Aside0.mk hr6
    have HC104:=Aside0.mk (show y101.length ≤ c0 from by omega)
    clear hr6 hC6 hroom6 hi06 hsz6
    have KY6:=Aside0.mk hy6
    clear hy6
    replace q6:=eq_true q6
    go_enter Try.func35,Try.ntmps35
    go_wp2_with (first | ((with_reducible refine gate_builtin (b:=.append) (xs:=#[.tmp 4,.tmp 9]) rfl ?_);at_builtin;refine Kd.R_append_rows (Kd.int .i64) (w0:=w) w.heap.size rfl (.tmp 4) (.tmp 9) 28 3 (.int .i64 0) 8 rfl Try.underlying28 info3 rfl (by decide) (by omega) (.slice none 0 0) ([]:List Int) y101 _ _ _ (fun _=>True) (fun _=>False) rfl rfl ?aO ?aR (fun _ _ h=>h) (fun _ h=>h.elim) ?aF ?aB ?aS ?aL ?_;(case aR=>repeat (first | exact HR104.out | (with_reducible refine Kd.C_alloc ?_ _) | (with_reducible refine Kd.C_drewN ?_ _) | (with_reducible refine Kd.C_drew ?_)));(case aB=>exact (by repeat (first | (with_reducible first | exact HB.out | apply below_alloc | apply pw_below_drewN | apply below_drew1) | exact HB.out)));(case aF=>exact (fun _ _=>trivial));(case aO=>exact ((Kd.R_nil _ _ _ _ (fun _=>True))));(case aS=>exact (below_size (by repeat (first | (with_reducible first | exact HB.out | apply below_alloc | apply pw_below_drewN | apply below_drew1) | exact HB.out))));(case aL=>have:=LMc5.out;omega);intro v106 w7 ho hb hg hat;rw [← Ny105.out] at ho;have n0_:=Aside0.mk (hb);have n1_:=Aside0.mk (ho);clear HB;have HB:=n0_;have HO107:=n1_;clear n0_ n1_;clear ho hb hg hat))
    go_ret
    exact ⟨_,by first | rfl | (simp [errW_none,errW_some] <;> rfl) | (simp only [← hji2];first | rfl | (simp [errW_none,errW_some] <;> rfl)) | (simp [*,errW_none,errW_some] <;> rfl),by (with_reducible repeat (first | apply Kd.R_alloc | apply Kd.R_drewN | apply Kd.R_drew));exact HO107.out,by repeat (first | (with_reducible first | exact HB.out | apply below_alloc | apply pw_below_drewN | apply below_drew1) | exact HB.out)⟩
   ·rw [if_neg c5] at H
    exact absurd H (by simp)
  ·rw [if_neg c4] at H
   exact absurd H (by simp)
 ·rw [if_neg c3] at H
  exact absurd H (by simp)
end Go.Proofs.Ytjohcjfmlhihbaa.G
namespace Go.Proofs.Ytjohcjfmlhihbaa.G
open Go.RowKit Go.Proofs.YtjohcjfmlhihbaaW.PrintWords Go.Proofs.YtjohcjfmlhihbaaW.PrintLast Go.Proofs.YtjohcjfmlhihbaaW.PrintMore
set_option maxHeartbeats 8000000
set_option maxRecDepth 100000
attribute [local go_sem] cond_true cond_false fld23_0 fld23_1 fld45_0 fld45_1 fld109_0 fld109_1 fld94_0 fld94_1 max2_int min2_int max_two min_two max_three min_three max_four min_four
def numnahlaw07_group.l0:Nat → List (S45) → List (S45) → Int → Option ((List (S45)))
 | 0,_,_,_=>none
 | k + 1,x0,x3,x4=>if x4 < (x0.length:Int) then (if x4 ≤ 6 then (if 0 ≤ x4 then ((numnahlaw07_list.f ((rd_T45 x0 x4).f1)).bind fun d0=>(if x3.length < 4398046511104 then (numnahlaw07_group.l0 k x0 (x3 ++ [(⟨(rd_T45 x0 x4).f0,d0⟩:S45)]) (wrap64 (x4 + 1))) else (none))) else (none)) else (some x3)) else (some x3)
def numnahlaw07_group.f (k:Nat) (l0:List (S45)):Option ((List (S45))):=numnahlaw07_group.l0 k l0 ([]:List (S45)) 0
theorem numnahlaw07_group.mono_l:∀ k,(∀ y0 y1 y2,LeO (numnahlaw07_group.l0 k y0 y1 y2) (numnahlaw07_group.l0 (k + 1) y0 y1 y2))
 | 0=>fun _ _ _ r h=>by simp [numnahlaw07_group.l0] at h
 | k + 1=>by
  have h1:=numnahlaw07_group.mono_l k
  intro y0 y1 y2
  unfold numnahlaw07_group.l0
  repeat' first
  | (with_reducible first | exact h1 _ _ _ | exact LeO.refl _ | exact LeO.none _ | refine LeO.ite ?_ ?_ | refine LeO.bind ?_ (fun _=>?_))
  | exact LeO.none _ | refine LeO.ite ?_ ?_ | refine LeO.bind ?_ (fun _=>?_)
theorem numnahlaw07_group.mono:∀ a0 k,LeO (numnahlaw07_group.f k a0) (numnahlaw07_group.f (k + 1) a0):=by
 intro a0 k
 have h1:=numnahlaw07_group.mono_l k
 unfold numnahlaw07_group.f
 repeat' first
   | (with_reducible first | exact h1 _ _ _ | exact LeO.refl _ | exact LeO.none _ | refine LeO.ite ?_ ?_ | refine LeO.bind ?_ (fun _=>?_))
   | exact LeO.none _ | refine LeO.ite ?_ ?_ | refine LeO.bind ?_ (fun _=>?_)
def numnahlaw07_group.T5:Bool × List (List Nat × List Nat):=(true,[([],[]),([],[]),([],[]),([1,2],[1,2]),([3],[3]),([4],[4]),([],[]),([],[]),([6,7],[6,7]),([8],[8]),([9],[9]),([10],[10]),([5,11],[5,11]),([12],[12]),([0,13,11],[0,13]),([14,14,0,1,2,3,4,5,6,7,8,9,10,11,12,13,14],[0,14])])
def numnahlaw07_group.B5:List Nat:=[0,0,0,6,14,30,0,0,192,448,960,1984,4094,8190,16383,32767]
theorem numnahlaw07_group.tab5:rtab .any (opsOf Try.f39 5) = numnahlaw07_group.T5:=by kernel_rfl
theorem numnahlaw07_group.bits5:waitsOk numnahlaw07_group.T5.2 numnahlaw07_group.B5 = true:=by kernel_rfl
theorem numnahlaw07_group.calls (k:Nat) (A0:Option Addr) (c0:Nat) (l0:List (S45)) (r:List (S45)) (w:World) (i0:Kd.C k45 w A0 l0.length l0) (i1:l0.length ≤ c0) (h:numnahlaw07_group.f k l0 = some r) :
  Calls Try.prog 39 #[.slice A0 l0.length c0] w fun e w'=>∃ i2:Value,e = .returned (i2) ∧ Kd.S k45 45 w' w.heap.size (fun _=>True) i2 r ∧ Below w.heap.size w w':=by
 have j8:=Try.underlying45
 have i3:=A_ i0
 have m0:=A_ i1
 clear i0 i1
 have HB:=A_ (Below.refl w.heap.size w)
 have H:(numnahlaw07_group.l0 k l0 ([]:List (S45)) 0) = some r:=h
 clear h
 have H':=A_ H
 clear H
 go_enter Try.func39,Try.ntmps39
 go_wp2
 go_loopg [3,4] k (fun kq v3 v4 w'=>∃ (d1:List (S45)) (b0:Int),v4 = .int .i64 b0 ∧ Aside0 (numnahlaw07_group.l0 kq l0 d1 b0 = some r) ∧ Aside0 (kq ≤ k) ∧ Aside0 (Kd.S k45 45 w' w.heap.size (fun _=>True) v3 d1) ∧ Aside0 (Below w.heap.size w w'))
 case atStart=>exact ⟨(([]:List (S45))),(0),(by first | rfl | (simp;done) | (simp [*];done)),H',⟨Nat.le_refl _⟩,⟨by first | exact Kd.S_nil _ _ _ _ _ | exact Kd.N_nil _ _ _ _ _ | exact Kd.V_nil _ _ _ _ _ | exact Kd.Q_nil _ _ _ _ _ | exact Kd.R_nil _ _ _ _ _⟩,⟨bl HB⟩⟩
 case round =>
  clear H'
  obtain ⟨d1,b0,rfl,HA,i4,b9,HB⟩:=hrel
  cases gk with
  | zero=>exact absurd HA.out (by simp [numnahlaw07_group.l0])
  | succ k1 =>
   have H:=HA.out
   clear HA
   simp only [numnahlaw07_group.l0] at H
   by_cases c2:b0 < (l0.length:Int)
   case neg =>
    rw [if_neg c2] at H
    have h2:=decide_eq_false c2
    clear c2
    obtain rfl:=Option.some.inj H
    go_wp2
    go_ret
    exact ⟨_,by first | rfl | (simp [errW_none,errW_some] <;> rfl) | (simp [*,errW_none,errW_some] <;> rfl),by (with_reducible repeat (first | apply Kd.S_alloc | apply Kd.S_drewN | apply Kd.S_drew));exact b9.out,bl HB⟩
   rw [if_pos c2] at H
   have h2:=decide_eq_true c2
   clear c2
   by_cases c3:b0 ≤ 6
   case neg =>
    rw [if_neg c3] at H
    have h3:=decide_eq_false c3
    clear c3
    obtain rfl:=Option.some.inj H
    go_wp2
    go_ret
    exact ⟨_,by first | rfl | (simp [errW_none,errW_some] <;> rfl) | (simp [*,errW_none,errW_some] <;> rfl),by (with_reducible repeat (first | apply Kd.S_alloc | apply Kd.S_drewN | apply Kd.S_drew));exact b9.out,bl HB⟩
   rw [if_pos c3] at H
   have h3:=decide_eq_true c3
   clear c3
   replace H:=gd H
   obtain ⟨c4,H⟩:=H
   have j9:=decide_eq_true c4
   clear c4
   replace H:=Option.bind_eq_some_iff.mp H
   obtain ⟨d0,i5,H⟩:=H
   replace H:(if d1.length < 4398046511104 then (numnahlaw07_group.l0 k1 l0 (d1 ++ [(⟨(rd_T45 l0 b0).f0,d0⟩:S45)]) (wrap64 (b0 + 1))) else (none)) = some r:=H
   have A5:=A_ i5
   clear i5
   replace H:=gd H
   obtain ⟨c6,H⟩:=H
   have h4:=A_ c6
   clear c6
   obtain ⟨h5,e0⟩:∃ y_:List (S45),y_ = (d1 ++ [(⟨(rd_T45 l0 b0).f0,d0⟩:S45)]):=⟨_,rfl⟩
   rw [← e0] at H
   have e7:=A_ e0
   clear e0
   have H':=A_ H
   clear H
   try go_wp2
   replace b9:=A_ (Kd.S_drew b9.out)
   replace HB:=bD HB
   have e3:0 ≤ (b0:Int):=of_decide_eq_true (by first | (with_reducible assumption) | assumption)
   have e4:b0 < (l0.length:Int):=of_decide_eq_true (by first | (with_reducible assumption) | assumption)
   obtain ⟨c1,d2,d3,h6,b7,b5,d4,d5⟩:=at_T45 i3.out b0 e3 e4
   have b1:=b5
   have b2:=b7
   cases h6
   replace b7:=(HB.out.cell (World.block_lt_of_cell? w _ b7)).trans b7
   replace b5:=(HB.out.cell (World.block_lt_of_cell? w _ b5)).trans b5
   have e1:=A_ d5
   have h0:=A_ d4
   clear d5 d4
   replace e3:=eq_true e3
   replace e4:=eq_true e4
   have e5:0 ≤ (b0:Int):=of_decide_eq_true (by first | (with_reducible assumption) | assumption)
   have e6:b0 < (l0.length:Int):=of_decide_eq_true (by first | (with_reducible assumption) | assumption)
   obtain ⟨e8,h7,h8,h9,b8,b6,d6,d7⟩:=at_T45 i3.out b0 e5 e6
   have b3:=b6
   have b4:=b8
   obtain rfl:c1 = e8:=(by injection h9)
   replace b8:=(HB.out.cell (World.block_lt_of_cell? w _ b8)).trans b8
   replace b6:=(HB.out.cell (World.block_lt_of_cell? w _ b6)).trans b6
   have d8:=A_ d7
   have e2:=A_ d6
   clear d7 d6
   replace e5:=eq_true e5
   replace e6:=eq_true e6
   have ea_:=Option.some.inj (b5.symm.trans b6)
   injection ea_ with ea_ en_ ec_
   subst ea_
   subst ec_
   clear en_
   refine start_ (n:=16) (S:=fun w'=>w'.cell? (c1.add ((b0).toNat * 2)) = some (.int .i64 ((rd_T45 l0 b0).f0)) ∧ w'.cell? ⟨(c1.add ((b0).toNat * 2)).block,(c1.add ((b0).toNat * 2)).off + 1,none⟩ = some (.slice d2 ((rd_T45 l0 b0).f1).length d3) ∧ w'.cell? (c1.add ((b0).toNat * 2)) = some (.int .i64 ((rd_T45 l0 b0).f0)) ∧ w'.cell? ⟨(c1.add ((b0).toNat * 2)).block,(c1.add ((b0).toNat * 2)).off + 1,none⟩ = some (.slice d2 ((rd_T45 l0 b0).f1).length d3)) (ds:=[]) (ba 16 0) (by kernel_rfl) rfl rfl ⟨((HB.out.cell (World.block_lt_of_cell? w _ b2)).trans b2),((HB.out.cell (World.block_lt_of_cell? w _ b1)).trans b1),((HB.out.cell (World.block_lt_of_cell? w _ b4)).trans b4),((HB.out.cell (World.block_lt_of_cell? w _ b3)).trans b3)⟩ (fun hHeld=>?_);refine with_tabW numnahlaw07_group.tab5 numnahlaw07_group.bits5 (fun HT_ HW_=>?_)
   generalize wr.drew = w7 at b9 HB e1 d8 b7 b5 b8 b6 hHeld ⊢
   refine pq 0 15 1 HT_ ?_
   refine pq 1 16 3 HT_ ?_
   refine pq 2 17 7 HT_ ?_
   refine pq 3 18 15 HT_ ?_
   refine pq 4 19 31 HT_ ?_
   refine pq 6 21 95 HT_ ?_
   refine pq 7 22 223 HT_ ?_
   refine pq 8 23 479 HT_ ?_
   refine pq 9 24 991 HT_ ?_
   refine tq 5 20 1023 HT_ HW_ hHeld ?_
   refine tq 10 25 2047 HT_ HW_ hHeld ?_
   refine oq 11 26 4095 HT_ (fun K hK=>?_)
   refine gq Try.func35 #[.slice d2 ((rd_T45 l0 b0).f1).length d3] ?_
   with_reducible refine (numnahlaw07_list.calls _ _ ((rd_T45 l0 b0).f1) d0 _ ?side1 ?side2 A5.out).mono ?_
   (case side1=>exact cB d8 HB)
   (case side2=>exact e2.out)
   rintro e w8 ⟨l5,rfl,i6,hb⟩
   refine ⟨_,rfl,?_⟩
   have d9:=A_ (Kd.R_lower i6 (below_size (bl HB)))
   replace b9:=A_ (Kd.S_elder' (by (with_reducible repeat (first | apply Kd.S_alloc | apply Kd.S_drewN | apply Kd.S_drew));exact b9.out) (Kd.R_base i6) hb)
   replace HB:=bB HB hb
   (try clear hb)
   obtain ⟨i7,i8,i9⟩:=Kd.R_slice d9.out
   (first | subst i9 | (injection i9 with j5 l6 j7;have l7:=j5.symm;have l8:=j7.symm;clear j5 l6 j7;subst l7;subst l8))
   refine hK.out _ _ ⟨((HB.out.cell (World.block_lt_of_cell? w _ b2)).trans b2),((HB.out.cell (World.block_lt_of_cell? w _ b1)).trans b1),((HB.out.cell (World.block_lt_of_cell? w _ b4)).trans b4),((HB.out.cell (World.block_lt_of_cell? w _ b3)).trans b3)⟩ (fun hHeld=>?_)
   clear hK K
   refine nq 26 ?_
   refine pq 12 27 8191 HT_ ?_
   refine oq 13 28 16383 HT_ (fun K hK=>?_)
   refine value_ (w1:=?_) (v:=?_) (by rfl) rfl ?_ ?_
   rotate_left 2
   ·go_simp
    constructor
    ·rfl
    rfl
   refine hK.out _ _ ⟨(World.cell?_alloc_lt _ _ _ (World.block_lt_of_cell? _ _ (((HB.out.cell (World.block_lt_of_cell? w _ b2)).trans b2)))).trans (((HB.out.cell (World.block_lt_of_cell? w _ b2)).trans b2)),(World.cell?_alloc_lt _ _ _ (World.block_lt_of_cell? _ _ (((HB.out.cell (World.block_lt_of_cell? w _ b1)).trans b1)))).trans (((HB.out.cell (World.block_lt_of_cell? w _ b1)).trans b1)),(World.cell?_alloc_lt _ _ _ (World.block_lt_of_cell? _ _ (((HB.out.cell (World.block_lt_of_cell? w _ b4)).trans b4)))).trans (((HB.out.cell (World.block_lt_of_cell? w _ b4)).trans b4)),(World.cell?_alloc_lt _ _ _ (World.block_lt_of_cell? _ _ (((HB.out.cell (World.block_lt_of_cell? w _ b3)).trans b3)))).trans (((HB.out.cell (World.block_lt_of_cell? w _ b3)).trans b3))⟩ (fun hHeld=>?_)
   clear hK K
   refine nq 28 ?_
   refine oq 14 29 32767 HT_ (fun K hK=>?_)
   refine Kd.S_append_step k45 (w0:=w) w.heap.size (by rfl) (.tmp 15) (.tmp 28) 43 45 (.agg #[(.int .i64 0),(.slice none 0 0)]) 32 rfl Try.underlying43 info45 rfl (by decide) (by omega) u3 d1 (⟨(rd_T45 l0 b0).f0,d0⟩:S45) [.int .i64 ((rd_T45 l0 b0).f0),.slice i7 d0.length i8] (fun _=>True) (fun k_=>some k_ = (.slice i7 d0.length i8:Value).ownBlock) rfl rfl ?aP (fun k_ hk_=>((Kd.R_mono (ok':=fun k_=>((fun _=>True)) k_ ∧ some k_ ≠ (u3:Value).ownBlock) (Kd.R_apart' (d9.out) (Kd.S_typed b9.out) (by decide)) (fun k_ hk=>⟨trivial,hk.2⟩))).1 k_ hk_.symm) ?aF ?aO ?aB ?aS ?aL ?_
   (case aP=>exact k45_mkM _ _ _ (⟨(rd_T45 l0 b0).f0,d0⟩:S45) (Kd.R_mono (Kd.R_tight rfl (Kd.R_mono (ok':=fun k_=>((fun _=>True)) k_ ∧ some k_ ≠ (u3:Value).ownBlock) (Kd.R_apart' (d9.out) (Kd.S_typed b9.out) (by decide)) (fun k_ hk=>⟨trivial,hk.2⟩))) (fun _ h_=>h_)))
   (case aB=>exact (bl HB))
   (case aF=>exact (fun _ _=>trivial))
   (case aO=>exact (by (with_reducible repeat (first | apply Kd.S_alloc | apply Kd.S_drewN | apply Kd.S_drew));exact Kd.S_mono b9.out (fun k_ hk=>⟨trivial,fun e_=>hk.2 e_⟩)))
   (case aS=>exact (below_size (bl HB)))
   (case aL=>have:=h4.out;omega)
   intro l9 m1 ho hb hg hat
   rw [← e7.out] at ho
   have e9:=A_ ho
   replace HB:=A_ hb
   clear b9 d9 ho hb hg hat
   refine hK.out _ _ ⟨((HB.out.cell (World.block_lt_of_cell? w _ b2)).trans b2),((HB.out.cell (World.block_lt_of_cell? w _ b1)).trans b1),((HB.out.cell (World.block_lt_of_cell? w _ b4)).trans b4),((HB.out.cell (World.block_lt_of_cell? w _ b3)).trans b3)⟩ (fun hHeld=>?_)
   clear hK K
   refine nq 29 ?_
   refine pq 15 3 65535 HT_ ?_
   refine done_ (done_of HT_.out (by kernel_rfl)) ?_
   try go_wp2
   go_roundg k1
   case measure=>have:=i4.out;omega
   case rel=>exact ⟨(h5),(wrap64 (b0 + 1)),(by first | rfl | (simp;done) | (simp [*];done)),H',⟨by have:=i4.out;omega⟩,⟨by (with_reducible repeat (first | apply Kd.S_alloc | apply Kd.S_drewN | apply Kd.S_drew));exact e9.out⟩,⟨bl HB⟩⟩
end Go.Proofs.Ytjohcjfmlhihbaa.G
set_option linter.unusedSectionVars false
namespace Go.Proofs.Ytjohcjfmlhihbaa.P
open Go Go.RowKit Go.Proofs.Ytjohcjfmlhihbaa.G
open Go.Proofs.YtjohcjfmlhihbaaW.PrintWords Go.Proofs.YtjohcjfmlhihbaaW.PrintMore
theorem list_f (l:List Int):numnahlaw07_list.f l = some (l.take 11):=by
 unfold numnahlaw07_list.f
 rw [mn11,if_pos (by omega),if_pos (by omega),Int.toNat_natCast]
 simp only [Option.bind_some,List.nil_append,List.length_nil]
 rw [if_pos (by rw [List.length_take];omega)]
 congr 1
 by_cases h:l.length ≤ 11
 ·rw [List.take_of_length_le (by omega),List.take_of_length_le h]
 ·rw [show min l.length 11 = 11 by omega]
end Go.Proofs.Ytjohcjfmlhihbaa.P
set_option linter.unusedSectionVars false
namespace Go.Proofs.Ytjohcjfmlhihbaa.P
open Go Go.RowKit Go.Proofs.Ytjohcjfmlhihbaa.G
open Go.Proofs.YtjohcjfmlhihbaaW.PrintWords Go.Proofs.YtjohcjfmlhihbaaW.PrintMore
def rateS (a:S23):Prop:=1 ≤ a.f1 ∧ a.f1 ≤ 100 ∧ 0 ≤ a.f0 ∧ a.f0 ≤ 1000000 ∧ Nat.gcd a.f0.natAbs a.f1.toNat = 1
instance (a:S23):Decidable (rateS a):=by unfold rateS;exact inferInstance
theorem rate_q {a:S23} (h:rateS a):∃ q:Rat,a = encQ q ∧ 0 ≤ q ∧ Sm 1000000 100 q:=by
 obtain ⟨h1,h2,h3,h4,h5⟩:=h
 obtain ⟨q,q1,q2⟩:=is_valid (n:=a.f0) (d:=a.f1.toNat) (by omega) h5
 exact ⟨q,S23_ext q1.symm (by show a.f1 = (q.den:Int);omega),Rat.num_nonneg.1 (by omega),by omega,by omega⟩
theorem rate_list:∀ {w:List S23},(∀ a ∈ w,rateS a) → ∃ x,w = encL x ∧ ∀ q ∈ x,0 ≤ q ∧ Sm 1000000 100 q
 | [],_=>⟨[],rfl,fun q hq=>by cases hq⟩
 | a :: w,h=>by
  obtain ⟨x,rfl,hx⟩:=rate_list (w:=w) fun b hb=>h b (List.mem_cons_of_mem _ hb)
  obtain ⟨q,rfl,hq⟩:=rate_q (h a (by simp))
  exact ⟨q :: x,rfl,fun p hp=>by
   rcases List.mem_cons.1 hp with rfl | hp
   ·exact hq
   ·exact hx p hp⟩
theorem ev_rate1 {a:S23} (ha:inS a):Ev (fun k=>shares_net_areRates_1.f k a.f0 a.f1) (!decide (rateS a)):=by
 unfold shares_net_areRates_1.f
 simp only [within_eq,Option.bind_some]
 by_cases h2:0 ≤ a.f0 ∧ a.f0 ≤ 1000000
 ·refine Ev.congr (fun k=>if_pos (decide_eq_true h2)) ?_
  by_cases h1:1 ≤ a.f1 ∧ a.f1 ≤ 100
  ·refine Ev.congr (fun k=>if_pos (decide_eq_true h1)) ?_
   obtain ⟨b,hb,_,hb2⟩:=ev_valid ha.1 h1.1
   refine Ev.bind hb ?_
   rw [hb2 (by omega)]
   have:(decide (Nat.gcd a.f0.natAbs a.f1.toNat = 1)) = decide (rateS a):=by
    rw [Bool.eq_iff_iff,decide_eq_true_iff,decide_eq_true_iff]
    exact ⟨fun k=>⟨h1.1,h1.2,h2.1,h2.2,k⟩,fun k=>k.2.2.2.2⟩
   rw [this]
   exact Ev.now _
  ·rw [decide_eq_false (fun k:rateS a=>h1 ⟨k.1,k.2.1⟩)]
   exact Ev.congr (fun k=>if_neg (by simpa using h1)) (Ev.now _)
 ·rw [decide_eq_false (fun k:rateS a=>h2 ⟨k.2.2.1,k.2.2.2.1⟩)]
  exact Ev.congr (fun k=>if_neg (by simpa using h2)) (Ev.now _)
theorem indexR_l0 {w:List S23} (hl:w.length ≤ 1000000) (hin:∀ a ∈ w,inS a):∀ (d i:Nat),i + d = w.length → ∃ r:Int,((0 ≤ r) ↔ ¬ ∀ a ∈ w.drop i,rateS a) ∧ Ev (fun k=>index118.l0 k w (w.length:Int) (i:Int)) r:=by
 intro d
 induction d with
 | zero =>
  intro i hi
  rw [List.drop_eq_nil_of_le (by omega)]
  refine ⟨-1,⟨fun e=>by omega,fun e=>absurd (fun a ha=>by cases ha) e⟩,Ev.step (f:=fun _=>some (-1)) (fun k=>?_) (Ev.now _)⟩
  rw [index118.l0,if_neg (by omega)]
 | succ d ih =>
  intro i hi
  have hil:i < w.length:=by omega
  have h1:=ev_rate1 (hin _ (List.getElem_mem hil))
  have start:∀ k,index118.l0 (k + 1) w (w.length:Int) (i:Int) = (shares_net_areRates_1.f k w[i].f0 w[i].f1).bind fun t=>if t = true then some (i:Int) else index118.l0 k w (w.length:Int) ((i + 1:Nat):Int):=by
   intro k
   rw [index118.l0,if_pos (by omega),if_pos (by omega),if_pos (by omega),rdT hil,wrap_succ (by omega)]
  rw [List.drop_eq_getElem_cons hil]
  by_cases hs:rateS w[i]
  ·obtain ⟨r,hr,hev⟩:=ih (i + 1) (by omega)
   refine ⟨r,hr.trans (not_congr ⟨fun h a ha=>?_,fun h a ha=>h a (List.mem_cons_of_mem _ ha)⟩),Ev.step start (Ev.bind h1 ?_)⟩
   ·rcases List.mem_cons.1 ha with rfl | ha
    ·exact hs
    ·exact h a ha
   ·rw [decide_eq_true hs]
    exact Ev.congr (fun k=>if_neg (by decide)) hev
  ·refine ⟨(i:Int),⟨fun _ hall=>hs (hall _ List.mem_cons_self),fun _=>by omega⟩,Ev.step start (Ev.bind h1 ?_)⟩
   rw [decide_eq_false hs]
   exact Ev.congr (fun k=>if_pos rfl) (Ev.now _)
theorem ev_areRates {p:List Int} {u:List S45} {w:List S23} (hl:w.length ≤ 1000000) (hin:∀ a ∈ w,inS a):Ev (fun k=>shares_net_areRates.f k p u w) (decide (w.length = u.length ∧ ∀ a ∈ w,rateS a)):=by
 unfold shares_net_areRates.f
 by_cases h:w.length = u.length
 ·refine Ev.congr (fun k=>if_pos (by omega)) ?_
  obtain ⟨r,hr,hev⟩:=indexR_l0 hl hin w.length 0 (by omega)
  rw [List.drop_zero] at hr
  unfold contains118.f index118.f
  refine Ev.bind (Ev.bind hev (Ev.now _)) ?_
  have:(!decide (r ≥ 0)) = decide (w.length = u.length ∧ ∀ a ∈ w,rateS a):=by
   rw [Bool.eq_iff_iff,Bool.not_eq_true',decide_eq_false_iff_not,decide_eq_true_iff]
   constructor
   ·intro hn;exact ⟨h,Classical.byContradiction fun hc=>hn (hr.2 hc)⟩
   ·intro hn hc;exact hr.1 hc hn.2
  rw [this]
  exact Ev.now _
 ·rw [decide_eq_false (fun k=>h k.1)]
  exact Ev.congr (fun k=>if_neg (by omega)) (Ev.now _)
theorem rates_l0 {u:List S45} {w:List S23} (hl:w.length ≤ 1000000) (hin:∀ a ∈ w,inS a):∀ (d i:Nat),i + d = w.length → Ev (fun k=>numnahref07_Rates.l0 k u w (i:Int)) (decide (w.length = u.length ∧ ∀ a ∈ w.drop i,rateS a)):=by
 intro d
 induction d with
 | zero =>
  intro i hi
  rw [List.drop_eq_nil_of_le (by omega)]
  refine Ev.step (f:=fun _=>some (decide (w.length = u.length ∧ ∀ a ∈ ([]:List S23),rateS a))) (fun k=>?_) (Ev.now _)
  rw [numnahref07_Rates.l0,if_neg (by omega)]
  congr 1
  rw [Bool.eq_iff_iff,decide_eq_true_iff,beq_iff_eq]
  exact ⟨fun h=>⟨by omega,fun a ha=>by cases ha⟩,fun h=>by omega⟩
 | succ d ih =>
  intro i hi
  have hil:i < w.length:=by omega
  rw [List.drop_eq_getElem_cons hil]
  refine Ev.step (fun k=>by rw [numnahref07_Rates.l0,if_pos (by omega),if_pos (by omega),rdT hil,wrap_succ (by omega)]) (Ev.bind (ev_within_any (hin _ (List.getElem_mem hil)) (by omega)) ?_)
  have e:decide (1 ≤ w[i].f1 ∧ w[i].f1 ≤ 100 ∧ 0 ≤ w[i].f0 ∧ w[i].f0 ≤ 1000000 ∧ Nat.gcd w[i].f0.natAbs w[i].f1.toNat = 1) = decide (rateS w[i]):=by
   rw [Bool.eq_iff_iff,decide_eq_true_iff,decide_eq_true_iff]
   exact Iff.rfl
  rw [e]
  by_cases hs:rateS w[i]
  ·have e2:(w.length = u.length ∧ ∀ a:S23,a ∈ w[i] :: w.drop (i + 1) → rateS a) ↔ (w.length = u.length ∧ ∀ a:S23,a ∈ w.drop (i + 1) → rateS a):=by
    refine and_congr Iff.rfl ⟨fun h a ha=>h a (List.mem_cons_of_mem _ ha),fun h a ha=>?_⟩
    rcases List.mem_cons.1 ha with rfl | ha
    ·exact hs
    ·exact h a ha
   rw [decide_eq_true hs,decide_eq_decide.2 e2]
   exact Ev.congr (fun k=>if_pos rfl) (ih (i + 1) (by omega))
  ·rw [decide_eq_false hs,decide_eq_false (fun h=>hs (h.2 _ List.mem_cons_self))]
   exact Ev.congr (fun k=>if_neg (by decide)) (Ev.now _)
theorem ev_rrates {u:List S45} {w:List S23} (hl:w.length ≤ 1000000) (hin:∀ a ∈ w,inS a):Ev (fun k=>numnahref07_Rates.f k u w) (decide (w.length = u.length ∧ ∀ a ∈ w,rateS a)):=by
 have:=rates_l0 (u:=u) hl hin w.length 0 (by omega)
 rwa [List.drop_zero] at this
theorem nonneg_num {q:Rat} {A:Nat} (h0:0 ≤ q) (h:q ≤ (A:Rat)):q.num.natAbs ≤ A * q.den:=num_bound (Rat.le_trans (by have:=Rat.natCast_nonneg (a:=A);grind) h0) h
theorem part_bd {N:Net} {r:Nat → Rat} {m:Nat} (hr:∀ i,i < m → 0 ≤ r i ∧ Sm 1000000 100 (r i)) (q:Nat):∀ i,i ≤ m → (part N r q i).den ≤ 100 ^ i ∧ 0 ≤ part N r q i ∧ part N r q i ≤ ((1000000 * i:Nat):Rat)
 | 0,_=>⟨by rw [show part N r q 0 = 0 from rfl];decide,Rat.le_refl,by rw [show part N r q 0 = 0 from rfl];exact Rat.natCast_nonneg⟩
 | i + 1,h=>by
  obtain ⟨h1,h2,h3⟩:=part_bd (N:=N) hr q i (by omega)
  obtain ⟨r0,rs⟩:=hr i (by omega)
  have rh:=(abs_of rs.num).2
  have rd:=rs.den
  have hp:0 < 100 ^ i:=Nat.pos_of_ne_zero (by simp)
  have e:((1000000 * (i + 1):Nat):Rat) = ((1000000 * i:Nat):Rat) + ((1000000:Nat):Rat):=by push_cast;grind
  have z:(0:Rat) ≤ ((1000000:Nat):Rat):=Rat.natCast_nonneg
  rw [part_succ,e,Nat.pow_succ]
  split
  ·refine ⟨?_,by grind,by grind⟩
   have hd:=Nat.le_of_dvd (Nat.mul_pos (den_pos _) (den_pos _)) (add_den_dvd' (p:=part N r q i) (q:=r i) (D:=(part N r q i).den * (r i).den) (Nat.dvd_mul_right _ _) (Nat.dvd_mul_left _ _) (Nat.mul_pos (den_pos _) (den_pos _)))
   exact Nat.le_trans hd (Nat.mul_le_mul h1 rd)
  ·exact ⟨by omega,h2,by grind⟩
theorem fits_of {a b:Rat} {A B D E:Nat} (a1:a.num.natAbs ≤ A) (a2:a.den ≤ D) (b1:b.num.natAbs ≤ B) (b2:b.den ≤ E) (h:A * E + B * D < 9223372036854775808) (h2:D * E < 9223372036854775808):Fits a b :=
 ⟨Nat.lt_of_le_of_lt (Nat.add_le_add (Nat.mul_le_mul a1 b2) (Nat.mul_le_mul b1 a2)) h,Nat.lt_of_le_of_lt (Nat.mul_le_mul a2 b2) h2⟩
theorem pow_le6 {i:Nat} (h:i ≤ 6):100 ^ i ≤ 1000000000000:=by
 have:100 ^ i ≤ 100 ^ 6:=Nat.pow_le_pow_right (by decide) h
 exact Nat.le_trans this (by decide)
theorem pow_le5 {i:Nat} (h:i ≤ 5):100 ^ i ≤ 10000000000:=by
 have:100 ^ i ≤ 100 ^ 5:=Nat.pow_le_pow_right (by decide) h
 exact Nat.le_trans this (by decide)
section
variable {p:List Int} {u:List S45} (hN:IsN p u) {x:List Rat} (hl:x.length = u.length) (hx:∀ q ∈ x,0 ≤ q ∧ Sm 1000000 100 q)
include hN hl hx
theorem rt_ok:∀ i,i < u.length → 0 ≤ rt x i ∧ Sm 1000000 100 (rt x i):=fun i hi=>by
 rw [rt_get (by omega)]
 exact hx _ (List.getElem_mem (by omega))
theorem lev_ok {i:Nat} (hi:i < u.length):(rt x i / (netOf p u).w i).num.natAbs ≤ 400000000 ∧ (rt x i / (netOf p u).w i).den ≤ 400:=by
 have hw:=hN.wt i hi
 obtain ⟨r0,rs⟩:=rt_ok hN hl hx i hi
 have e2:(netOf p u).w i = ((u[i].f0.toNat:Nat):Rat):=by
  show ((rd_T45 u (i:Int)).f0:Rat) = _
  rw [rdT45 hi]
  have e:u[i].f0 = ((u[i].f0.toNat:Nat):Int):=by omega
  exact (congrArg (fun z:Int=>(z:Rat)) e).trans (Rat.intCast_natCast _)
 rw [e2]
 have n0:0 < u[i].f0.toNat:=by omega
 have h1:=Nat.le_of_dvd (Nat.mul_pos (den_pos _) n0) (over_den (rt x i) n0)
 have h2:(rt x i).den * u[i].f0.toNat ≤ 100 * 4:=Nat.mul_le_mul rs.den (by omega)
 have h3:=over_le n0 r0
 have h4:=nonneg_num h3.1 (Rat.le_trans h3.2 (abs_of rs.num).2)
 refine ⟨?_,by omega⟩
 have:1000000 * (rt x i / ((u[i].f0.toNat:Nat):Rat)).den ≤ 1000000 * 400:=Nat.mul_le_mul_left _ (by omega)
 omega
theorem rates_ok:OkR p u x:=by
 have hr:=rt_ok hN hl hx
 have h6:=hN.u6
 refine ⟨hl,fun q i hi=>?_,fun i j hi hj=>?_,fun i hi=>?_,fun i hi=>?_⟩
 ·obtain ⟨h1,h2,h3⟩:=part_bd (N:=netOf p u) hr q i (by omega)
  have h4:=nonneg_num h2 h3
  have h5:=pow_le5 (i:=i) (by omega)
  have h7:1000000 * i * (part (netOf p u) (rt x) q i).den ≤ 5000000 * 10000000000:=Nat.mul_le_mul (by omega) (by omega)
  exact fits_of (A:=50000000000000000) (D:=10000000000) (B:=1000000) (E:=100) (by omega) (by omega) (hr i hi).2.num (hr i hi).2.den (by decide) (by decide)
 ·have a:=lev_ok hN hl hx hi
  have b:=lev_ok hN hl hx hj
  exact fits_of a.1 a.2 b.1 b.2 (by decide) (by decide)
 ·exact Nat.lt_of_le_of_lt (hr i hi).2.num (by decide)
 ·have:=(hr i hi).2.den;omega
theorem load_bd (q:Nat):((netOf p u).load (rt x) q).den ≤ 1000000000000 ∧ ((netOf p u).load (rt x) q).num.natAbs ≤ 6000000000000000000:=by
 have hr:=rt_ok hN hl hx
 have h6:=hN.u6
 obtain ⟨h1,h2,h3⟩:=part_bd (N:=netOf p u) hr q u.length (Nat.le_refl _)
 have h5:=pow_le6 (i:=u.length) (by omega)
 have e:part (netOf p u) (rt x) q u.length = (netOf p u).load (rt x) q:=rfl
 rw [e] at h1 h2 h3
 have h4:=nonneg_num h2 h3
 have h7:1000000 * u.length * ((netOf p u).load (rt x) q).den ≤ 6000000 * 1000000000000:=Nat.mul_le_mul (by omega) (by omega)
 exact ⟨by omega,by omega⟩
theorem load_cap {q:Nat} (hq:q < p.length):Fits ((netOf p u).load (rt x) q) ((netOf p u).cap q):=by
 have h1:=load_bd hN hl hx q
 have h2:=hN.cap q hq
 refine fits_of h1.2 h1.1 (B:=200) (E:=1) ?_ ?_ (by decide) (by decide)
 ·show ((rd p (q:Int):Int):Rat).num.natAbs ≤ 200
  rw [whole_num,rd_get hq];omega
 ·show ((rd p (q:Int):Int):Rat).den ≤ 1
  rw [whole_den];exact Nat.le_refl _
theorem loads_l0:∀ d i,i + d = p.length → Ev (fun k=>shares_net_loads.l0 k (encL x) (encL ((List.range i).map fun q=>(netOf p u).load (rt x) q)) (p.length:Int) (i:Int) p u) (encL ((List.range p.length).map fun q=>(netOf p u).load (rt x) q)):=by
 intro d
 have h5:=hN.p5
 induction d with
 | zero =>
  intro i hi
  obtain rfl:i = p.length:=by omega
  refine Ev.step (f:=fun _=>some (encL ((List.range p.length).map fun q=>(netOf p u).load (rt x) q))) (fun k=>?_) (Ev.now _)
  rw [shares_net_loads.l0,if_neg (by omega)]
 | succ d ih =>
  intro i hi
  have hn:=ih (i + 1) (by omega)
  have e:encL ((List.range (i + 1)).map fun q=>(netOf p u).load (rt x) q) = encL ((List.range i).map fun q=>(netOf p u).load (rt x) q) ++ [encQ ((netOf p u).load (rt x) i)]:=by
   unfold encL
   rw [List.range_succ,List.map_append,List.map_append];rfl
  rw [e] at hn
  refine Ev.step (fun k=>by rw [shares_net_loads.l0,if_pos (by omega),wrap_succ (by omega)]) (Ev.bind (ev_load hN (rates_ok hN hl hx) i) ?_)
  refine Ev.congr (fun k=>if_pos (by rw [encL_length,List.length_map,List.length_range];omega)) hn
theorem ev_loads:Ev (fun k=>shares_net_loads.f k p u (encL x)) (encL ((List.range p.length).map fun q=>(netOf p u).load (rt x) q)):=loads_l0 hN hl hx p.length 0 (by omega)
theorem possible_l0:∀ d i,i + d = p.length → Ev (fun k=>numnahref07_Possible.l0 k p u (encL x) (i:Int)) (allF (fun q=>decide ((netOf p u).load (rt x) q ≤ (netOf p u).cap q)) d i):=by
 intro d
 have h5:=hN.p5
 induction d with
 | zero =>
  intro i hi
  refine Ev.step (f:=fun _=>some true) (fun k=>?_) (Ev.now _)
  rw [numnahref07_Possible.l0,if_neg (by omega)]
 | succ d ih =>
  intro i hi
  have hil:i < p.length:=by omega
  have hb:=load_bd hN hl hx i
  have hc:=hN.cap i hil
  rw [allF]
  refine Ev.step (fun k=>by rw [numnahref07_Possible.l0,if_pos (by omega),wrap_succ (by omega)]) (Ev.bind (ev_rload hN (rates_ok hN hl hx) i) ?_)
  refine Ev.congr (fun k=>if_pos (by omega)) ?_
  have ew:wrap64 (rd p (i:Int) * (((netOf p u).load (rt x) i).den:Int)) = rd p (i:Int) * (((netOf p u).load (rt x) i).den:Int):=by
   rw [rd_get hil]
   refine wrap_abs ?_
   rw [Int.natAbs_mul,Int.natAbs_natCast]
   exact Nat.lt_of_le_of_lt (Nat.mul_le_mul (show p[i].natAbs ≤ 200 by omega) hb.1) (by decide)
  have key:((netOf p u).load (rt x) i).num > rd p (i:Int) * (((netOf p u).load (rt x) i).den:Int) ↔ ¬ (netOf p u).load (rt x) i ≤ (netOf p u).cap i:=by
   rw [Rat.not_le,show (netOf p u).cap i = ((rd p (i:Int):Int):Rat) from rfl,← less_iff,whole_num,whole_den]
   constructor <;> intro h <;> (push_cast at h ⊢;omega)
  by_cases hh:(netOf p u).load (rt x) i ≤ (netOf p u).cap i
  ·rw [decide_eq_true hh]
   exact Ev.congr (fun k=>if_neg (by rw [ew,key];exact fun h=>h hh)) (ih (i + 1) (by omega))
  ·rw [decide_eq_false hh]
   exact Ev.congr (fun k=>if_pos (by rw [ew,key];exact hh)) (Ev.now _)
theorem ev_possible:Ev (fun k=>numnahref07_Possible.f k p u (encL x)) (allF (fun q=>decide ((netOf p u).load (rt x) q ≤ (netOf p u).cap q)) p.length 0):=possible_l0 hN hl hx p.length 0 (by omega)
def unheld (p:List Int) (u:List S45) (x:List Rat) (v:Nat):Bool:=decide (firstI (fun q=>holdsB (netOf p u) (rt x) q v) p.length 0 < 0)
theorem better_l1:∀ d i,i + d = u.length → Ev (fun k=>shares_Better.l1 k (encL x) (u.length:Int) (i:Int) p u) (firstI (unheld p u x) d i,0):=by
 intro d
 have h6:=hN.u6
 induction d with
 | zero =>
  intro i hi
  refine Ev.step (f:=fun _=>some (-1,0)) (fun k=>?_) (Ev.now _)
  rw [shares_Better.l1,if_neg (by omega)]
 | succ d ih =>
  intro i hi
  have hil:i < u.length:=by omega
  rw [firstI]
  refine Ev.step (fun k=>by rw [shares_Better.l1,if_pos (by omega),wrap_succ (by omega)]) (Ev.bind (ev_held hN (rates_ok hN hl hx) hil) ?_)
  by_cases hh:firstI (fun q=>holdsB (netOf p u) (rt x) q i) p.length 0 < 0
  ·have hu:unheld p u x i = true:=decide_eq_true hh
   rw [hu,if_pos rfl]
   exact Ev.congr (fun k=>if_pos hh) (Ev.now _)
  ·have hu:unheld p u x i = false:=decide_eq_false hh
   rw [hu,if_neg (by decide)]
   exact Ev.congr (fun k=>if_neg hh) (ih (i + 1) (by omega))
theorem better_l0:∀ d i,i + d = p.length → Ev (fun k=>shares_Better.l0 k p u (encL x) (encL ((List.range p.length).map fun q=>(netOf p u).load (rt x) q)) (p.length:Int) (i:Int) p u) (if allF (fun q=>decide ((netOf p u).load (rt x) q ≤ (netOf p u).cap q)) d i = true then (firstI (unheld p u x) u.length 0,0) else (0,10)):=by
 intro d
 have h5:=hN.p5
 induction d with
 | zero =>
  intro i hi
  rw [allF,if_pos rfl]
  refine Ev.step (fun k=>?_) (better_l1 hN hl hx u.length 0 (by omega))
  rw [shares_Better.l0,if_neg (by omega)];rfl
 | succ d ih =>
  intro i hi
  have hil:i < p.length:=by omega
  have hlen:(encL ((List.range p.length).map fun q=>(netOf p u).load (rt x) q)).length = p.length:=by rw [encL_length,List.length_map,List.length_range]
  have hg:rd_T23 (encL ((List.range p.length).map fun q=>(netOf p u).load (rt x) q)) (i:Int) = encQ ((netOf p u).load (rt x) i):=by
   rw [encT (by rw [List.length_map,List.length_range];exact hil),rt_get (by rw [List.length_map,List.length_range];exact hil),List.getElem_map,List.getElem_range]
  have hc:=ev_compare (load_cap hN hl hx hil)
  rw [show (netOf p u).cap i = ((rd p (i:Int):Int):Rat) from rfl,whole_num,whole_den] at hc
  rw [allF]
  refine Ev.step (fun k=>by rw [shares_Better.l0,if_pos (by omega),if_pos (by omega),if_pos (by omega),if_pos (by omega),hg,wrap_succ (by omega)]) ?_
  unfold shares_whole.f
  simp only [Option.bind_some]
  refine Ev.bind hc ?_
  by_cases hh:(netOf p u).load (rt x) i ≤ (netOf p u).cap i
  ·rw [decide_eq_true hh,Bool.true_and]
   refine Ev.congr (fun k=>if_neg ?_) (ih (i + 1) (by omega))
   rw [cmpR_gt];exact Rat.not_lt.2 hh
  ·rw [decide_eq_false hh,Bool.false_and,if_neg (by decide)]
   exact Ev.congr (fun k=>if_pos ((cmpR_gt _ _).2 (Rat.not_le.1 hh))) (Ev.now _)
end
def cutU (a:S45):S45:=⟨a.f0,a.f1.take 11⟩
theorem group_l0 (u0:List S45):∀ (d i:Nat),i + d = min u0.length 7 → Ev (fun k=>numnahlaw07_group.l0 k u0 ((u0.take i).map cutU) (i:Int)) ((u0.take 7).map cutU):=by
 intro d
 induction d with
 | zero =>
  intro i hi
  refine Ev.step (f:=fun _=>some ((u0.take 7).map cutU)) (fun k=>?_) (Ev.now _)
  rw [numnahlaw07_group.l0]
  by_cases h:(i:Int) < (u0.length:Int)
  ·rw [if_pos h,if_neg (by omega)]
   have:i = 7:=by omega
   rw [this]
  ·rw [if_neg h,List.take_of_length_le (by omega),List.take_of_length_le (by omega)]
 | succ d ih =>
  intro i hi
  have hil:i < u0.length:=by omega
  refine Ev.step (fun k=>?_) (ih (i + 1) (by omega))
  rw [numnahlaw07_group.l0,if_pos (by omega),if_pos (by omega),if_pos (by omega),list_f,rdT45 hil]
  simp only [Option.bind_some]
  rw [if_pos (by rw [List.length_map,List.length_take];omega),wrap_succ (by omega),List.take_succ_eq_append_getElem hil,List.map_append]
  rfl
theorem ev_group (u0:List S45):Ev (fun k=>numnahlaw07_group.f k u0) ((u0.take 7).map cutU):=group_l0 u0 (min u0.length 7) 0 (by omega)
theorem group_len (u0:List S45):((u0.take 7).map cutU).length ≤ 7 ∧ ∀ a ∈ (u0.take 7).map cutU,a.f1.length ≤ 1000000:=by
 refine ⟨by rw [List.length_map,List.length_take];omega,fun a ha=>?_⟩
 obtain ⟨b,_,rfl⟩:=List.mem_map.1 ha
 show (b.f1.take 11).length ≤ 1000000
 rw [List.length_take];omega
end Go.Proofs.Ytjohcjfmlhihbaa.P
namespace Go.Proofs.Ytjohcjfmlhihbaa.G
open Go.RowKit Go.Proofs.YtjohcjfmlhihbaaW.PrintWords Go.Proofs.YtjohcjfmlhihbaaW.PrintLast Go.Proofs.YtjohcjfmlhihbaaW.PrintMore
set_option maxHeartbeats 8000000
set_option maxRecDepth 100000
attribute [local go_sem] cond_true cond_false fld23_0 fld23_1 fld45_0 fld45_1 fld109_0 fld109_1 fld94_0 fld94_1 max2_int min2_int max_two min_two max_three min_three max_four min_four
attribute [local go_sem high] eqA23
mutual
def numnahlaw07_SharesLoads.j0:Nat → List Int → List (S45) → List (S23) → List (S23) → Int → Int → Bool → Option (Bool)
 | 0,_,_,_,_,_,_,_=>none
 | k + 1,x7,x8,x9,o9,l7,l8,x89=>if x89 = true then (some false) else (numnahlaw07_SharesLoads.l0 k x7 x8 x9 o9 l7 l8 0)
def numnahlaw07_SharesLoads.l0:Nat → List Int → List (S45) → List (S23) → List (S23) → Int → Int → Int → Option (Bool)
 | 0,_,_,_,_,_,_,_=>none
 | k + 1,x7,x8,x9,o9,l7,l8,m8=>if m8 < (x7.length:Int) then (if 0 ≤ m8 then (if m8 < (o9.length:Int) then ((numnahref07_Load.f k x8 x9 m8).bind fun i8=>(if (!(((rd_T23 o9 m8).f0) == i8.1) || (!(((rd_T23 o9 m8).f1) == i8.2))) = true then (some false) else (numnahlaw07_SharesLoads.l0 k x7 x8 x9 o9 l7 l8 (wrap64 (m8 + 1))))) else (none)) else (none)) else ((numnahref07_Possible.f k x7 x8 x9).bind fun i5=>(if i5 = true then (numnahlaw07_SharesLoads.l1 k x7 x8 x9 l7 l8 (-1) (wrap64 ((x8.length:Int) - 1))) else (if l7 = 0 then (if l8 = 10 then ((numnahlaw07_awake.f k).bind fun h1=>(some h1)) else (some false)) else (some false))))
def numnahlaw07_SharesLoads.l1:Nat → List Int → List (S45) → List (S23) → Int → Int → Int → Int → Option (Bool)
 | 0,_,_,_,_,_,_,_=>none
 | k + 1,x7,x8,x9,l7,l8,z5,p5=>if p5 ≥ 0 then ((numnahref07_Holder.f k x7 x8 x9 p5).bind fun h2=>(if h2 < 0 then (numnahlaw07_SharesLoads.l1 k x7 x8 x9 l7 l8 p5 (wrap64 (p5 - 1))) else (numnahlaw07_SharesLoads.l1 k x7 x8 x9 l7 l8 z5 (wrap64 (p5 - 1))))) else (if l7 = z5 then (if l8 = 0 then ((numnahlaw07_awake.f k).bind fun i6=>(some i6)) else (some false)) else (some false))
end
def numnahlaw07_SharesLoads.f (k:Nat) (l0:List Int) (l1:List (S45)) (l2:List (S23)):Option (Bool):=(numnahlaw07_list.f l0).bind fun b0=>((numnahlaw07_group.f k l1).bind fun b1=>((numnahlaw07_fracs.f l2).bind fun b2=>((shares_Load.f k b0 b1 b2).bind fun b7=>((shares_Better.f k b0 b1 b2).bind fun b5=>((numnahref07_Users.f k b0 b1).bind fun e0=>(if e0 = true then ((numnahref07_Rates.f k b1 b2).bind fun d8=>(if d8 = true then (if (b7.1.length:Int) = (b0.length:Int) then (numnahlaw07_SharesLoads.j0 k b0 b1 b2 b7.1 b5.1 b5.2 (b7.2 != 0)) else (numnahlaw07_SharesLoads.j0 k b0 b1 b2 b7.1 b5.1 b5.2 true)) else (if (b7.1.length:Int) = 0 then (if b7.2 = 10 then (if b5.1 = 0 then (if b5.2 = 10 then ((numnahlaw07_awake.f k).bind fun d7=>(some d7)) else (some false)) else (some false)) else (some false)) else (some false)))) else (if (b7.1.length:Int) = 0 then (if b7.2 = 2 then (if b5.1 = 0 then (if b5.2 = 2 then ((numnahlaw07_awake.f k).bind fun d9=>(some d9)) else (some false)) else (some false)) else (some false)) else (some false))))))))
theorem numnahlaw07_SharesLoads.mono_l:∀ k,(∀ y0 y1 y2 y3 y4 y5 y6,LeO (numnahlaw07_SharesLoads.j0 k y0 y1 y2 y3 y4 y5 y6) (numnahlaw07_SharesLoads.j0 (k + 1) y0 y1 y2 y3 y4 y5 y6)) ∧ (∀ y0 y1 y2 y3 y4 y5 y6,LeO (numnahlaw07_SharesLoads.l0 k y0 y1 y2 y3 y4 y5 y6) (numnahlaw07_SharesLoads.l0 (k + 1) y0 y1 y2 y3 y4 y5 y6)) ∧ (∀ y0 y1 y2 y3 y4 y5 y6,LeO (numnahlaw07_SharesLoads.l1 k y0 y1 y2 y3 y4 y5 y6) (numnahlaw07_SharesLoads.l1 (k + 1) y0 y1 y2 y3 y4 y5 y6))
 | 0=>⟨fun _ _ _ _ _ _ _ r h=>by simp [numnahlaw07_SharesLoads.j0] at h,fun _ _ _ _ _ _ _ r h=>by simp [numnahlaw07_SharesLoads.l0] at h,fun _ _ _ _ _ _ _ r h=>by simp [numnahlaw07_SharesLoads.l1] at h⟩
 | k + 1=>by
  obtain ⟨p6,p7,p8⟩:=numnahlaw07_SharesLoads.mono_l k
  refine ⟨?_,?_,?_⟩
  ·intro y0 y1 y2 y3 y4 y5 y6
   unfold numnahlaw07_SharesLoads.j0
   repeat' first
   | (with_reducible first | exact p6 _ _ _ _ _ _ _ | exact p7 _ _ _ _ _ _ _ | exact p8 _ _ _ _ _ _ _ | exact numnahlaw07_awake.mono _ | exact numnahlaw07_group.mono _ _ | exact numnahref07_Holder.mono _ _ _ _ _ | exact numnahref07_Load.mono _ _ _ _ | exact numnahref07_Possible.mono _ _ _ _ | exact numnahref07_Rates.mono _ _ _ | exact numnahref07_Users.mono _ _ _ | exact shares_Better.mono _ _ _ _ | exact shares_Load.mono _ _ _ _ | exact LeO.refl _ | exact LeO.none _ | refine LeO.ite ?_ ?_ | refine LeO.bind ?_ (fun _=>?_))
   | exact LeO.none _ | refine LeO.ite ?_ ?_ | refine LeO.bind ?_ (fun _=>?_)
  ·intro y0 y1 y2 y3 y4 y5 y6
   unfold numnahlaw07_SharesLoads.l0
   repeat' first
   | (with_reducible first | exact p6 _ _ _ _ _ _ _ | exact p7 _ _ _ _ _ _ _ | exact p8 _ _ _ _ _ _ _ | exact numnahlaw07_awake.mono _ | exact numnahlaw07_group.mono _ _ | exact numnahref07_Holder.mono _ _ _ _ _ | exact numnahref07_Load.mono _ _ _ _ | exact numnahref07_Possible.mono _ _ _ _ | exact numnahref07_Rates.mono _ _ _ | exact numnahref07_Users.mono _ _ _ | exact shares_Better.mono _ _ _ _ | exact shares_Load.mono _ _ _ _ | exact LeO.refl _ | exact LeO.none _ | refine LeO.ite ?_ ?_ | refine LeO.bind ?_ (fun _=>?_))
   | exact LeO.none _ | refine LeO.ite ?_ ?_ | refine LeO.bind ?_ (fun _=>?_)
  intro y0 y1 y2 y3 y4 y5 y6
  unfold numnahlaw07_SharesLoads.l1
  repeat' first
  | (with_reducible first | exact p6 _ _ _ _ _ _ _ | exact p7 _ _ _ _ _ _ _ | exact p8 _ _ _ _ _ _ _ | exact numnahlaw07_awake.mono _ | exact numnahlaw07_group.mono _ _ | exact numnahref07_Holder.mono _ _ _ _ _ | exact numnahref07_Load.mono _ _ _ _ | exact numnahref07_Possible.mono _ _ _ _ | exact numnahref07_Rates.mono _ _ _ | exact numnahref07_Users.mono _ _ _ | exact shares_Better.mono _ _ _ _ | exact shares_Load.mono _ _ _ _ | exact LeO.refl _ | exact LeO.none _ | refine LeO.ite ?_ ?_ | refine LeO.bind ?_ (fun _=>?_))
  | exact LeO.none _ | refine LeO.ite ?_ ?_ | refine LeO.bind ?_ (fun _=>?_)
theorem numnahlaw07_SharesLoads.mono:∀ a0 a1 a2 k,LeO (numnahlaw07_SharesLoads.f k a0 a1 a2) (numnahlaw07_SharesLoads.f (k + 1) a0 a1 a2):=by
 intro a0 a1 a2 k
 obtain ⟨p6,p7,p8⟩:=numnahlaw07_SharesLoads.mono_l k
 unfold numnahlaw07_SharesLoads.f
 repeat' first
   | (with_reducible first | exact p6 _ _ _ _ _ _ _ | exact p7 _ _ _ _ _ _ _ | exact p8 _ _ _ _ _ _ _ | exact numnahlaw07_awake.mono _ | exact numnahlaw07_group.mono _ _ | exact numnahref07_Holder.mono _ _ _ _ _ | exact numnahref07_Load.mono _ _ _ _ | exact numnahref07_Possible.mono _ _ _ _ | exact numnahref07_Rates.mono _ _ _ | exact numnahref07_Users.mono _ _ _ | exact shares_Better.mono _ _ _ _ | exact shares_Load.mono _ _ _ _ | exact LeO.refl _ | exact LeO.none _ | refine LeO.ite ?_ ?_ | refine LeO.bind ?_ (fun _=>?_))
   | exact LeO.none _ | refine LeO.ite ?_ ?_ | refine LeO.bind ?_ (fun _=>?_)
def numnahlaw07_SharesLoads.T13:Bool × List (List Nat × List Nat):=(true,[([],[]),([],[]),([0,1],[0,1]),([2],[2]),([],[]),([],[]),([],[]),([4,5,6],[4,5,6]),([3,7],[3,7])])
def numnahlaw07_SharesLoads.B13:List Nat:=[0,0,3,7,0,0,0,112,255]
theorem numnahlaw07_SharesLoads.tab13:rtab .any (opsOf Try.f17 13) = numnahlaw07_SharesLoads.T13:=by kernel_rfl
theorem numnahlaw07_SharesLoads.bits13:waitsOk numnahlaw07_SharesLoads.T13.2 numnahlaw07_SharesLoads.B13 = true:=by kernel_rfl
theorem numnahlaw07_SharesLoads.calls (k:Nat) (A0:Option Addr) (c0:Nat) (l0:List Int) (A1:Option Addr) (c1:Nat) (l1:List (S45)) (A2:Option Addr) (c2:Nat) (l2:List (S23)) (r:Bool) (w:World) (z6:Kd.C (Kd.int .i64) w A0 l0.length l0) (z7:l0.length ≤ c0) (z8:Kd.C k45 w A1 l1.length l1) (z9:l1.length ≤ c1) (A3:Kd.C k23 w A2 l2.length l2) (B0:l2.length ≤ c2) (h:numnahlaw07_SharesLoads.f k l0 l1 l2 = some r) (hrt_:r = true) :
  Calls Try.prog 17 #[.slice A0 l0.length c0,.slice A1 l1.length c1,.slice A2 l2.length c2] w fun e w'=>e = .returned (.bool r) ∧ Below w.heap.size w w':=by
 have HRT:=Aside0.mk hrt_
 clear hrt_
 have D6:=Try.underlying23
 have t8:=A_ z6
 have t9:=A_ z7
 clear z6 z7
 have x0:=A_ z8
 have x1:=A_ z9
 clear z8 z9
 have x2:=A_ A3
 have x3:=A_ B0
 clear A3 B0
 have HB:=A_ (Below.refl w.heap.size w)
 have H:((numnahlaw07_list.f l0).bind fun b0=>((numnahlaw07_group.f k l1).bind fun b1=>((numnahlaw07_fracs.f l2).bind fun b2=>((shares_Load.f k b0 b1 b2).bind fun b7=>((shares_Better.f k b0 b1 b2).bind fun b5=>((numnahref07_Users.f k b0 b1).bind fun e0=>(if e0 = true then ((numnahref07_Rates.f k b1 b2).bind fun d8=>(if d8 = true then (if (b7.1.length:Int) = (b0.length:Int) then (numnahlaw07_SharesLoads.j0 k b0 b1 b2 b7.1 b5.1 b5.2 (b7.2 != 0)) else (numnahlaw07_SharesLoads.j0 k b0 b1 b2 b7.1 b5.1 b5.2 true)) else (if (b7.1.length:Int) = 0 then (if b7.2 = 10 then (if b5.1 = 0 then (if b5.2 = 10 then ((numnahlaw07_awake.f k).bind fun d7=>(some d7)) else (some false)) else (some false)) else (some false)) else (some false)))) else (if (b7.1.length:Int) = 0 then (if b7.2 = 2 then (if b5.1 = 0 then (if b5.2 = 2 then ((numnahlaw07_awake.f k).bind fun d9=>(some d9)) else (some false)) else (some false)) else (some false)) else (some false))))))))) = some r:=h
 clear h
 replace H:=Option.bind_eq_some_iff.mp H
 obtain ⟨b0,C0,H⟩:=H
 replace H:((numnahlaw07_group.f k l1).bind fun b1=>((numnahlaw07_fracs.f l2).bind fun b2=>((shares_Load.f k b0 b1 b2).bind fun b7=>((shares_Better.f k b0 b1 b2).bind fun b5=>((numnahref07_Users.f k b0 b1).bind fun e0=>(if e0 = true then ((numnahref07_Rates.f k b1 b2).bind fun d8=>(if d8 = true then (if (b7.1.length:Int) = (b0.length:Int) then (numnahlaw07_SharesLoads.j0 k b0 b1 b2 b7.1 b5.1 b5.2 (b7.2 != 0)) else (numnahlaw07_SharesLoads.j0 k b0 b1 b2 b7.1 b5.1 b5.2 true)) else (if (b7.1.length:Int) = 0 then (if b7.2 = 10 then (if b5.1 = 0 then (if b5.2 = 10 then ((numnahlaw07_awake.f k).bind fun d7=>(some d7)) else (some false)) else (some false)) else (some false)) else (some false)))) else (if (b7.1.length:Int) = 0 then (if b7.2 = 2 then (if b5.1 = 0 then (if b5.2 = 2 then ((numnahlaw07_awake.f k).bind fun d9=>(some d9)) else (some false)) else (some false)) else (some false)) else (some false)))))))) = some r:=H
 have A4:=A_ C0
 clear C0
 replace H:=Option.bind_eq_some_iff.mp H
 obtain ⟨b1,C1,H⟩:=H
 replace H:((numnahlaw07_fracs.f l2).bind fun b2=>((shares_Load.f k b0 b1 b2).bind fun b7=>((shares_Better.f k b0 b1 b2).bind fun b5=>((numnahref07_Users.f k b0 b1).bind fun e0=>(if e0 = true then ((numnahref07_Rates.f k b1 b2).bind fun d8=>(if d8 = true then (if (b7.1.length:Int) = (b0.length:Int) then (numnahlaw07_SharesLoads.j0 k b0 b1 b2 b7.1 b5.1 b5.2 (b7.2 != 0)) else (numnahlaw07_SharesLoads.j0 k b0 b1 b2 b7.1 b5.1 b5.2 true)) else (if (b7.1.length:Int) = 0 then (if b7.2 = 10 then (if b5.1 = 0 then (if b5.2 = 10 then ((numnahlaw07_awake.f k).bind fun d7=>(some d7)) else (some false)) else (some false)) else (some false)) else (some false)))) else (if (b7.1.length:Int) = 0 then (if b7.2 = 2 then (if b5.1 = 0 then (if b5.2 = 2 then ((numnahlaw07_awake.f k).bind fun d9=>(some d9)) else (some false)) else (some false)) else (some false)) else (some false))))))) = some r:=H
 have A5:=A_ C1
 clear C1
 replace H:=Option.bind_eq_some_iff.mp H
 obtain ⟨b2,C2,H⟩:=H
 replace H:((shares_Load.f k b0 b1 b2).bind fun b7=>((shares_Better.f k b0 b1 b2).bind fun b5=>((numnahref07_Users.f k b0 b1).bind fun e0=>(if e0 = true then ((numnahref07_Rates.f k b1 b2).bind fun d8=>(if d8 = true then (if (b7.1.length:Int) = (b0.length:Int) then (numnahlaw07_SharesLoads.j0 k b0 b1 b2 b7.1 b5.1 b5.2 (b7.2 != 0)) else (numnahlaw07_SharesLoads.j0 k b0 b1 b2 b7.1 b5.1 b5.2 true)) else (if (b7.1.length:Int) = 0 then (if b7.2 = 10 then (if b5.1 = 0 then (if b5.2 = 10 then ((numnahlaw07_awake.f k).bind fun d7=>(some d7)) else (some false)) else (some false)) else (some false)) else (some false)))) else (if (b7.1.length:Int) = 0 then (if b7.2 = 2 then (if b5.1 = 0 then (if b5.2 = 2 then ((numnahlaw07_awake.f k).bind fun d9=>(some d9)) else (some false)) else (some false)) else (some false)) else (some false)))))) = some r:=H
 have A6:=A_ C2
 clear C2
 replace H:=Option.bind_eq_some_iff.mp H
 obtain ⟨⟨b8,d2⟩,A70,H⟩:=H
 replace H:((shares_Better.f k b0 b1 b2).bind fun b5=>((numnahref07_Users.f k b0 b1).bind fun e0=>(if e0 = true then ((numnahref07_Rates.f k b1 b2).bind fun d8=>(if d8 = true then (if (b8.length:Int) = (b0.length:Int) then (numnahlaw07_SharesLoads.j0 k b0 b1 b2 b8 b5.1 b5.2 (d2 != 0)) else (numnahlaw07_SharesLoads.j0 k b0 b1 b2 b8 b5.1 b5.2 true)) else (if (b8.length:Int) = 0 then (if d2 = 10 then (if b5.1 = 0 then (if b5.2 = 10 then ((numnahlaw07_awake.f k).bind fun d7=>(some d7)) else (some false)) else (some false)) else (some false)) else (some false)))) else (if (b8.length:Int) = 0 then (if d2 = 2 then (if b5.1 = 0 then (if b5.2 = 2 then ((numnahlaw07_awake.f k).bind fun d9=>(some d9)) else (some false)) else (some false)) else (some false)) else (some false))))) = some r:=H
 have A7:=A_ A70
 clear A70
 replace H:=Option.bind_eq_some_iff.mp H
 obtain ⟨⟨b9,d0⟩,A80,H⟩:=H
 replace H:((numnahref07_Users.f k b0 b1).bind fun e0=>(if e0 = true then ((numnahref07_Rates.f k b1 b2).bind fun d8=>(if d8 = true then (if (b8.length:Int) = (b0.length:Int) then (numnahlaw07_SharesLoads.j0 k b0 b1 b2 b8 b9 d0 (d2 != 0)) else (numnahlaw07_SharesLoads.j0 k b0 b1 b2 b8 b9 d0 true)) else (if (b8.length:Int) = 0 then (if d2 = 10 then (if b9 = 0 then (if d0 = 10 then ((numnahlaw07_awake.f k).bind fun d7=>(some d7)) else (some false)) else (some false)) else (some false)) else (some false)))) else (if (b8.length:Int) = 0 then (if d2 = 2 then (if b9 = 0 then (if d0 = 2 then ((numnahlaw07_awake.f k).bind fun d9=>(some d9)) else (some false)) else (some false)) else (some false)) else (some false)))) = some r:=H
 have A8:=A_ A80
 clear A80
 replace H:=Option.bind_eq_some_iff.mp H
 obtain ⟨e0,C3,H⟩:=H
 replace H:(if e0 = true then ((numnahref07_Rates.f k b1 b2).bind fun d8=>(if d8 = true then (if (b8.length:Int) = (b0.length:Int) then (numnahlaw07_SharesLoads.j0 k b0 b1 b2 b8 b9 d0 (d2 != 0)) else (numnahlaw07_SharesLoads.j0 k b0 b1 b2 b8 b9 d0 true)) else (if (b8.length:Int) = 0 then (if d2 = 10 then (if b9 = 0 then (if d0 = 10 then ((numnahlaw07_awake.f k).bind fun d7=>(some d7)) else (some false)) else (some false)) else (some false)) else (some false)))) else (if (b8.length:Int) = 0 then (if d2 = 2 then (if b9 = 0 then (if d0 = 2 then ((numnahlaw07_awake.f k).bind fun d9=>(some d9)) else (some false)) else (some false)) else (some false)) else (some false))) = some r:=H
 have A9:=A_ C3
 clear C3
 by_cases c10:e0 = true
 case neg =>
  replace c10:=Bool.eq_false_iff.mpr c10
  subst c10
  rw [if_neg (show ¬ (false = true) by decide)] at H
  by_cases h5:(b8.length:Int) = 0
  case neg =>
   rw [if_neg h5] at H
   have m9:((b8.length:Int) == 0) = false:=beq_eq_false_iff_ne.mpr h5
   have n0:((b8.length:Int) != 0) = true:=bne_iff_ne.mpr h5
   have x4:¬ (b8 = []):=fun h_=>h5 (by rw [h_];rfl)
   exact absurd ((Option.some.inj H).trans HRT.out) (by decide)
  rw [if_pos h5] at H
  have m9:((b8.length:Int) == 0) = true:=beq_iff_eq.mpr h5
  have n0:((b8.length:Int) != 0) = false:=bne_eq_false_iff_eq.mpr h5
  clear h5
  by_cases i1:d2 = 2
  case neg =>
   rw [if_neg i1] at H
   have n1:(d2 == 2) = false:=beq_eq_false_iff_ne.mpr i1
   have n2:(d2 != 2) = true:=bne_iff_ne.mpr i1
   exact absurd ((Option.some.inj H).trans HRT.out) (by decide)
  rw [if_pos i1] at H
  have n1:(d2 == 2) = true:=beq_iff_eq.mpr i1
  have n2:(d2 != 2) = false:=bne_eq_false_iff_eq.mpr i1
  clear i1
  by_cases i2:b9 = 0
  case neg =>
   rw [if_neg i2] at H
   have n3:(b9 == 0) = false:=beq_eq_false_iff_ne.mpr i2
   have n4:(b9 != 0) = true:=bne_iff_ne.mpr i2
   exact absurd ((Option.some.inj H).trans HRT.out) (by decide)
  rw [if_pos i2] at H
  have n3:(b9 == 0) = true:=beq_iff_eq.mpr i2
  have n4:(b9 != 0) = false:=bne_eq_false_iff_eq.mpr i2
  clear i2
  by_cases i3:d0 = 2
  case neg =>
   rw [if_neg i3] at H
   have n5:(d0 == 2) = false:=beq_eq_false_iff_ne.mpr i3
   have n6:(d0 != 2) = true:=bne_iff_ne.mpr i3
   exact absurd ((Option.some.inj H).trans HRT.out) (by decide)
  rw [if_pos i3] at H
  have n5:(d0 == 2) = true:=beq_iff_eq.mpr i3
  have n6:(d0 != 2) = false:=bne_eq_false_iff_eq.mpr i3
  clear i3
  replace H:=Option.bind_eq_some_iff.mp H
  obtain ⟨d9,m1,H⟩:=H
  replace H:(some d9) = some r:=H
  have x5:=A_ m1
  clear m1
  obtain rfl:=Option.some.inj H
  go_enter Try.func17,Try.ntmps17
  go_wp2_with (first | ((with_reducible refine gate_callee (f:=35) rfl ?_);refine gL (some 18) Try.func35 #[.slice A0 l0.length c0] ?_;(with_reducible refine (numnahlaw07_list.calls _ _ l0 b0 _ ?side1 ?side2 A4.out).mono ?_);(case side1=>repeat (first | exact t8.out | (with_reducible refine Kd.C_alloc ?_ _) | (with_reducible refine Kd.C_drewN ?_ _) | (with_reducible refine Kd.C_drew ?_)));(case side2=>exact t9.out);rintro e D7 ⟨m2,rfl,e8,hb⟩;refine ⟨_,rfl,?_⟩;have b3:=A_ (Kd.R_lower e8 (below_size (bl HB)));replace HB:=bB HB hb;(try clear hb)) | ((with_reducible refine gate_callee (f:=39) rfl ?_);refine gL (some 20) Try.func39 #[.slice A1 l1.length c1] ?_;(with_reducible refine (numnahlaw07_group.calls k _ _ l1 b1 _ ?side1 ?side2 A5.out).mono ?_);(case side1=>exact cB x0 HB);(case side2=>exact x1.out);rintro e D8 ⟨m3,rfl,e8,hb⟩;refine ⟨_,rfl,?_⟩;have b4:=A_ (Kd.S_lower (Kd.S_new' e8 (Kd.R_lt (rs b3))) (below_size (bl HB)));replace b3:=rB b3 hb;replace HB:=bB HB hb;(try clear hb)) | ((with_reducible refine gate_callee (f:=36) rfl ?_);refine gL (some 22) Try.func36 #[.slice A2 l2.length c2] ?_;(with_reducible refine (numnahlaw07_fracs.calls _ _ l2 b2 _ ?side1 ?side2 A6.out).mono ?_);(case side1=>exact cB x2 HB);(case side2=>exact x3.out);rintro e D9 ⟨m4,rfl,e8,hb⟩;refine ⟨_,rfl,?_⟩;have b6:=A_ (Kd.R_lower e8 (below_size (bl HB)));replace b3:=rB b3 hb;replace b4:=A_ (Kd.S_below (by (with_reducible repeat (first | apply Kd.S_alloc | apply Kd.S_drewN | apply Kd.S_drew));exact b4.out) hb);replace HB:=bB HB hb;(try clear hb);obtain ⟨i9,j5,p9⟩:=Kd.R_slice b3.out;subst p9;obtain ⟨j7,j8,q0⟩:=Kd.S_slice b4.out;subst q0;obtain ⟨m5,m6,q1⟩:=Kd.R_slice b6.out;subst q1) | ((with_reducible refine gate_callee (f:=57) rfl ?_);refine gL (some 27) Try.func57 #[.slice i9 b0.length j5,.slice j7 b1.length j8,.slice m5 b2.length m6] ?_;(with_reducible refine (shares_Load.calls k _ _ b0 _ _ b1 _ _ b2 b8 d2 _ ?side1 ?side2 ?side3 ?side4 ?side5 ?side6 A7.out).mono ?_);(case side1=>repeat (first | exact (Kd.R_reads' b3.out).2.2 | (with_reducible refine Kd.C_alloc ?_ _) | (with_reducible refine Kd.C_drewN ?_ _) | (with_reducible refine Kd.C_drew ?_)));(case side2=>exact (Kd.R_reads' b3.out).2.1);(case side3=>repeat (first | exact (Kd.S_reads' b4.out).2.2 | (with_reducible refine Kd.C_alloc ?_ _) | (with_reducible refine Kd.C_drewN ?_ _) | (with_reducible refine Kd.C_drew ?_)));(case side4=>exact (Kd.S_reads' b4.out).2.1);(case side5=>repeat (first | exact (Kd.R_reads' b6.out).2.2 | (with_reducible refine Kd.C_alloc ?_ _) | (with_reducible refine Kd.C_drewN ?_ _) | (with_reducible refine Kd.C_drew ?_)));(case side6=>exact (Kd.R_reads' b6.out).2.1);rintro e E0 ⟨h3,rfl,e8,hb⟩;refine ⟨_,rfl,?_⟩;have d1:=A_ (Kd.R_lower (Kd.R_new' e8 (Kd.R_lt (rs b6))) (below_size (bl HB)));replace b3:=rB b3 hb;replace b4:=A_ (Kd.S_below (by (with_reducible repeat (first | apply Kd.S_alloc | apply Kd.S_drewN | apply Kd.S_drew));exact b4.out) hb);replace b6:=A_ (Kd.R_elder' (rs b6) (Kd.R_base e8) hb);replace HB:=bB HB hb;(try clear hb)) | ((with_reducible refine gate_callee (f:=58) rfl ?_);refine gL (some 34) Try.func58 #[.slice i9 b0.length j5,.slice j7 b1.length j8,.slice m5 b2.length m6] ?_;(with_reducible refine (shares_Better.calls k _ _ b0 _ _ b1 _ _ b2 b9 d0 _ ?side1 ?side2 ?side3 ?side4 ?side5 ?side6 A8.out).mono ?_);(case side1=>repeat (first | exact (Kd.R_reads' b3.out).2.2 | (with_reducible refine Kd.C_alloc ?_ _) | (with_reducible refine Kd.C_drewN ?_ _) | (with_reducible refine Kd.C_drew ?_)));(case side2=>exact (Kd.R_reads' b3.out).2.1);(case side3=>repeat (first | exact (Kd.S_reads' b4.out).2.2 | (with_reducible refine Kd.C_alloc ?_ _) | (with_reducible refine Kd.C_drewN ?_ _) | (with_reducible refine Kd.C_drew ?_)));(case side4=>exact (Kd.S_reads' b4.out).2.1);(case side5=>repeat (first | exact (Kd.R_reads' b6.out).2.2 | (with_reducible refine Kd.C_alloc ?_ _) | (with_reducible refine Kd.C_drewN ?_ _) | (with_reducible refine Kd.C_drew ?_)));(case side6=>exact (Kd.R_reads' b6.out).2.1);rintro e E1 ⟨rfl,hb⟩;refine ⟨_,rfl,?_⟩;replace b3:=rB b3 hb;replace b4:=A_ (Kd.S_below (by (with_reducible repeat (first | apply Kd.S_alloc | apply Kd.S_drewN | apply Kd.S_drew));exact b4.out) hb);replace b6:=rB b6 hb;replace d1:=rB d1 hb;replace HB:=bB HB hb;(try clear hb)) | ((with_reducible refine gate_callee (f:=41) rfl ?_);refine gL (some 39) Try.func41 #[.slice i9 b0.length j5,.slice j7 b1.length j8] ?_;(with_reducible refine (numnahref07_Users.calls k _ _ b0 _ _ b1 false _ ?side1 ?side2 ?side3 ?side4 A9.out).mono ?_);(case side1=>repeat (first | exact (Kd.R_reads' b3.out).2.2 | (with_reducible refine Kd.C_alloc ?_ _) | (with_reducible refine Kd.C_drewN ?_ _) | (with_reducible refine Kd.C_drew ?_)));(case side2=>exact (Kd.R_reads' b3.out).2.1);(case side3=>repeat (first | exact (Kd.S_reads' b4.out).2.2 | (with_reducible refine Kd.C_alloc ?_ _) | (with_reducible refine Kd.C_drewN ?_ _) | (with_reducible refine Kd.C_drew ?_)));(case side4=>exact (Kd.S_reads' b4.out).2.1);rintro e w' ⟨rfl,⟨nd,rfl⟩⟩;refine ⟨_,rfl,?_⟩;obtain ⟨C4,C5,q2⟩:=Kd.R_slice d1.out;subst q2) | (go_at_call 22;(with_reducible refine (numnahlaw07_awake.calls k  d9 _ x5.out).mono ?_);rintro e E2 ⟨rfl,hb⟩;replace b3:=rB b3 hb;replace b4:=A_ (Kd.S_below (by (with_reducible repeat (first | apply Kd.S_alloc | apply Kd.S_drewN | apply Kd.S_drew));exact b4.out) hb);replace b6:=rB b6 hb;replace d1:=rB d1 hb;replace HB:=bB HB hb;(try clear hb)))
  go_ret
  exact ⟨by first | rfl | (simp [errW_none,errW_some] <;> rfl) | (simp [*,errW_none,errW_some] <;> rfl),bl HB⟩
 subst c10
 rw [if_pos rfl] at H
 replace H:=Option.bind_eq_some_iff.mp H
 obtain ⟨d8,q3,H⟩:=H
 replace H:(if d8 = true then (if (b8.length:Int) = (b0.length:Int) then (numnahlaw07_SharesLoads.j0 k b0 b1 b2 b8 b9 d0 (d2 != 0)) else (numnahlaw07_SharesLoads.j0 k b0 b1 b2 b8 b9 d0 true)) else (if (b8.length:Int) = 0 then (if d2 = 10 then (if b9 = 0 then (if d0 = 10 then ((numnahlaw07_awake.f k).bind fun d7=>(some d7)) else (some false)) else (some false)) else (some false)) else (some false))) = some r:=H
 have C6:=A_ q3
 clear q3
 by_cases t4:d8 = true
 case neg =>
  replace t4:=Bool.eq_false_iff.mpr t4
  subst t4
  rw [if_neg (show ¬ (false = true) by decide)] at H
  by_cases m7:(b8.length:Int) = 0
  case neg =>
   rw [if_neg m7] at H
   have q4:((b8.length:Int) == 0) = false:=beq_eq_false_iff_ne.mpr m7
   have q5:((b8.length:Int) != 0) = true:=bne_iff_ne.mpr m7
   have C7:¬ (b8 = []):=fun h_=>m7 (by rw [h_];rfl)
   exact absurd ((Option.some.inj H).trans HRT.out) (by decide)
  rw [if_pos m7] at H
  have q4:((b8.length:Int) == 0) = true:=beq_iff_eq.mpr m7
  have q5:((b8.length:Int) != 0) = false:=bne_eq_false_iff_eq.mpr m7
  clear m7
  by_cases n7:d2 = 10
  case neg =>
   rw [if_neg n7] at H
   have q6:(d2 == 10) = false:=beq_eq_false_iff_ne.mpr n7
   have q7:(d2 != 10) = true:=bne_iff_ne.mpr n7
   exact absurd ((Option.some.inj H).trans HRT.out) (by decide)
  rw [if_pos n7] at H
  have q6:(d2 == 10) = true:=beq_iff_eq.mpr n7
  have q7:(d2 != 10) = false:=bne_eq_false_iff_eq.mpr n7
  clear n7
  by_cases n8:b9 = 0
  case neg =>
   rw [if_neg n8] at H
   have q8:(b9 == 0) = false:=beq_eq_false_iff_ne.mpr n8
   have q9:(b9 != 0) = true:=bne_iff_ne.mpr n8
   exact absurd ((Option.some.inj H).trans HRT.out) (by decide)
  rw [if_pos n8] at H
  have q8:(b9 == 0) = true:=beq_iff_eq.mpr n8
  have q9:(b9 != 0) = false:=bne_eq_false_iff_eq.mpr n8
  clear n8
  by_cases n9:d0 = 10
  case neg =>
   rw [if_neg n9] at H
   have r0:(d0 == 10) = false:=beq_eq_false_iff_ne.mpr n9
   have r1:(d0 != 10) = true:=bne_iff_ne.mpr n9
   exact absurd ((Option.some.inj H).trans HRT.out) (by decide)
  rw [if_pos n9] at H
  have r0:(d0 == 10) = true:=beq_iff_eq.mpr n9
  have r1:(d0 != 10) = false:=bne_eq_false_iff_eq.mpr n9
  clear n9
  replace H:=Option.bind_eq_some_iff.mp H
  obtain ⟨d7,r2,H⟩:=H
  replace H:(some d7) = some r:=H
  have E3:=A_ r2
  clear r2
  obtain rfl:=Option.some.inj H
  go_enter Try.func17,Try.ntmps17
  go_wp2_with (first | ((with_reducible refine gate_callee (f:=35) rfl ?_);refine gL (some 18) Try.func35 #[.slice A0 l0.length c0] ?_;(with_reducible refine (numnahlaw07_list.calls _ _ l0 b0 _ ?side1 ?side2 A4.out).mono ?_);(case side1=>repeat (first | exact t8.out | (with_reducible refine Kd.C_alloc ?_ _) | (with_reducible refine Kd.C_drewN ?_ _) | (with_reducible refine Kd.C_drew ?_)));(case side2=>exact t9.out);rintro e G4 ⟨m2,rfl,e8,hb⟩;refine ⟨_,rfl,?_⟩;have b3:=A_ (Kd.R_lower e8 (below_size (bl HB)));replace HB:=bB HB hb;(try clear hb)) | ((with_reducible refine gate_callee (f:=39) rfl ?_);refine gL (some 20) Try.func39 #[.slice A1 l1.length c1] ?_;(with_reducible refine (numnahlaw07_group.calls k _ _ l1 b1 _ ?side1 ?side2 A5.out).mono ?_);(case side1=>exact cB x0 HB);(case side2=>exact x1.out);rintro e G5 ⟨m3,rfl,e8,hb⟩;refine ⟨_,rfl,?_⟩;have b4:=A_ (Kd.S_lower (Kd.S_new' e8 (Kd.R_lt (rs b3))) (below_size (bl HB)));replace b3:=rB b3 hb;replace HB:=bB HB hb;(try clear hb)) | ((with_reducible refine gate_callee (f:=36) rfl ?_);refine gL (some 22) Try.func36 #[.slice A2 l2.length c2] ?_;(with_reducible refine (numnahlaw07_fracs.calls _ _ l2 b2 _ ?side1 ?side2 A6.out).mono ?_);(case side1=>exact cB x2 HB);(case side2=>exact x3.out);rintro e G6 ⟨m4,rfl,e8,hb⟩;refine ⟨_,rfl,?_⟩;have b6:=A_ (Kd.R_lower e8 (below_size (bl HB)));replace b3:=rB b3 hb;replace b4:=A_ (Kd.S_below (by (with_reducible repeat (first | apply Kd.S_alloc | apply Kd.S_drewN | apply Kd.S_drew));exact b4.out) hb);replace HB:=bB HB hb;(try clear hb);obtain ⟨o0,o1,x6⟩:=Kd.R_slice b3.out;subst x6;obtain ⟨l9,m0,y7⟩:=Kd.S_slice b4.out;subst y7;obtain ⟨o2,o3,y8⟩:=Kd.R_slice b6.out;subst y8) | ((with_reducible refine gate_callee (f:=57) rfl ?_);refine gL (some 27) Try.func57 #[.slice o0 b0.length o1,.slice l9 b1.length m0,.slice o2 b2.length o3] ?_;(with_reducible refine (shares_Load.calls k _ _ b0 _ _ b1 _ _ b2 b8 d2 _ ?side1 ?side2 ?side3 ?side4 ?side5 ?side6 A7.out).mono ?_);(case side1=>repeat (first | exact (Kd.R_reads' b3.out).2.2 | (with_reducible refine Kd.C_alloc ?_ _) | (with_reducible refine Kd.C_drewN ?_ _) | (with_reducible refine Kd.C_drew ?_)));(case side2=>exact (Kd.R_reads' b3.out).2.1);(case side3=>repeat (first | exact (Kd.S_reads' b4.out).2.2 | (with_reducible refine Kd.C_alloc ?_ _) | (with_reducible refine Kd.C_drewN ?_ _) | (with_reducible refine Kd.C_drew ?_)));(case side4=>exact (Kd.S_reads' b4.out).2.1);(case side5=>repeat (first | exact (Kd.R_reads' b6.out).2.2 | (with_reducible refine Kd.C_alloc ?_ _) | (with_reducible refine Kd.C_drewN ?_ _) | (with_reducible refine Kd.C_drew ?_)));(case side6=>exact (Kd.R_reads' b6.out).2.1);rintro e G7 ⟨h3,rfl,e8,hb⟩;refine ⟨_,rfl,?_⟩;have d1:=A_ (Kd.R_lower (Kd.R_new' e8 (Kd.R_lt (rs b6))) (below_size (bl HB)));replace b3:=rB b3 hb;replace b4:=A_ (Kd.S_below (by (with_reducible repeat (first | apply Kd.S_alloc | apply Kd.S_drewN | apply Kd.S_drew));exact b4.out) hb);replace b6:=A_ (Kd.R_elder' (rs b6) (Kd.R_base e8) hb);replace HB:=bB HB hb;(try clear hb)) | ((with_reducible refine gate_callee (f:=58) rfl ?_);refine gL (some 34) Try.func58 #[.slice o0 b0.length o1,.slice l9 b1.length m0,.slice o2 b2.length o3] ?_;(with_reducible refine (shares_Better.calls k _ _ b0 _ _ b1 _ _ b2 b9 d0 _ ?side1 ?side2 ?side3 ?side4 ?side5 ?side6 A8.out).mono ?_);(case side1=>repeat (first | exact (Kd.R_reads' b3.out).2.2 | (with_reducible refine Kd.C_alloc ?_ _) | (with_reducible refine Kd.C_drewN ?_ _) | (with_reducible refine Kd.C_drew ?_)));(case side2=>exact (Kd.R_reads' b3.out).2.1);(case side3=>repeat (first | exact (Kd.S_reads' b4.out).2.2 | (with_reducible refine Kd.C_alloc ?_ _) | (with_reducible refine Kd.C_drewN ?_ _) | (with_reducible refine Kd.C_drew ?_)));(case side4=>exact (Kd.S_reads' b4.out).2.1);(case side5=>repeat (first | exact (Kd.R_reads' b6.out).2.2 | (with_reducible refine Kd.C_alloc ?_ _) | (with_reducible refine Kd.C_drewN ?_ _) | (with_reducible refine Kd.C_drew ?_)));(case side6=>exact (Kd.R_reads' b6.out).2.1);rintro e G8 ⟨rfl,hb⟩;refine ⟨_,rfl,?_⟩;replace b3:=rB b3 hb;replace b4:=A_ (Kd.S_below (by (with_reducible repeat (first | apply Kd.S_alloc | apply Kd.S_drewN | apply Kd.S_drew));exact b4.out) hb);replace b6:=rB b6 hb;replace d1:=rB d1 hb;replace HB:=bB HB hb;(try clear hb)) | ((with_reducible refine gate_callee (f:=41) rfl ?_);refine gL (some 39) Try.func41 #[.slice o0 b0.length o1,.slice l9 b1.length m0] ?_;(with_reducible refine (numnahref07_Users.calls k _ _ b0 _ _ b1 true _ ?side1 ?side2 ?side3 ?side4 A9.out).mono ?_);(case side1=>repeat (first | exact (Kd.R_reads' b3.out).2.2 | (with_reducible refine Kd.C_alloc ?_ _) | (with_reducible refine Kd.C_drewN ?_ _) | (with_reducible refine Kd.C_drew ?_)));(case side2=>exact (Kd.R_reads' b3.out).2.1);(case side3=>repeat (first | exact (Kd.S_reads' b4.out).2.2 | (with_reducible refine Kd.C_alloc ?_ _) | (with_reducible refine Kd.C_drewN ?_ _) | (with_reducible refine Kd.C_drew ?_)));(case side4=>exact (Kd.S_reads' b4.out).2.1);rintro e w' ⟨rfl,⟨nd,rfl⟩⟩;refine ⟨_,rfl,?_⟩) | ((with_reducible refine gate_callee (f:=59) rfl ?_);refine gL (some 61) Try.func59 #[.slice l9 b1.length m0,.slice o2 b2.length o3] ?_;(with_reducible refine (numnahref07_Rates.calls k _ _ b1 _ _ b2 false _ ?side1 ?side2 ?side3 ?side4 C6.out).mono ?_);(case side1=>repeat (first | exact (Kd.S_reads' b4.out).2.2 | (with_reducible refine Kd.C_alloc ?_ _) | (with_reducible refine Kd.C_drewN ?_ _) | (with_reducible refine Kd.C_drew ?_)));(case side2=>exact (Kd.S_reads' b4.out).2.1);(case side3=>repeat (first | exact (Kd.R_reads' b6.out).2.2 | (with_reducible refine Kd.C_alloc ?_ _) | (with_reducible refine Kd.C_drewN ?_ _) | (with_reducible refine Kd.C_drew ?_)));(case side4=>exact (Kd.R_reads' b6.out).2.1);rintro e G9 ⟨rfl,hb⟩;refine ⟨_,rfl,?_⟩;replace b3:=rB b3 hb;replace b4:=A_ (Kd.S_below (by (with_reducible repeat (first | apply Kd.S_alloc | apply Kd.S_drewN | apply Kd.S_drew));exact b4.out) hb);replace b6:=rB b6 hb;replace d1:=rB d1 hb;replace HB:=bB HB hb;(try clear hb);obtain ⟨E4,E5,y9⟩:=Kd.R_slice d1.out;subst y9) | (go_at_call 22;(with_reducible refine (numnahlaw07_awake.calls k  d7 _ E3.out).mono ?_);rintro e H0 ⟨rfl,hb⟩;replace b3:=rB b3 hb;replace b4:=A_ (Kd.S_below (by (with_reducible repeat (first | apply Kd.S_alloc | apply Kd.S_drewN | apply Kd.S_drew));exact b4.out) hb);replace b6:=rB b6 hb;replace d1:=rB d1 hb;replace HB:=bB HB hb;(try clear hb)))
  go_ret
  exact ⟨by first | rfl | (simp [errW_none,errW_some] <;> rfl) | (simp [*,errW_none,errW_some] <;> rfl),bl HB⟩
 subst t4
 rw [if_pos rfl] at H
 have o4:=A_ H
 clear H
 go_enter Try.func17,Try.ntmps17
 go_upto_region 8 with (first | ((with_reducible refine gate_callee (f:=35) rfl ?_);refine gL (some 18) Try.func35 #[.slice A0 l0.length c0] ?_;(with_reducible refine (numnahlaw07_list.calls _ _ l0 b0 _ ?side1 ?side2 A4.out).mono ?_);(case side1=>repeat (first | exact t8.out | (with_reducible refine Kd.C_alloc ?_ _) | (with_reducible refine Kd.C_drewN ?_ _) | (with_reducible refine Kd.C_drew ?_)));(case side2=>exact t9.out);rintro e H1 ⟨m2,rfl,e8,hb⟩;refine ⟨_,rfl,?_⟩;have b3:=A_ (Kd.R_lower e8 (below_size (bl HB)));replace HB:=bB HB hb;(try clear hb)) | ((with_reducible refine gate_callee (f:=39) rfl ?_);refine gL (some 20) Try.func39 #[.slice A1 l1.length c1] ?_;(with_reducible refine (numnahlaw07_group.calls k _ _ l1 b1 _ ?side1 ?side2 A5.out).mono ?_);(case side1=>exact cB x0 HB);(case side2=>exact x1.out);rintro e H2 ⟨m3,rfl,e8,hb⟩;refine ⟨_,rfl,?_⟩;have b4:=A_ (Kd.S_lower (Kd.S_new' e8 (Kd.R_lt (rs b3))) (below_size (bl HB)));replace b3:=rB b3 hb;replace HB:=bB HB hb;(try clear hb)) | ((with_reducible refine gate_callee (f:=36) rfl ?_);refine gL (some 22) Try.func36 #[.slice A2 l2.length c2] ?_;(with_reducible refine (numnahlaw07_fracs.calls _ _ l2 b2 _ ?side1 ?side2 A6.out).mono ?_);(case side1=>exact cB x2 HB);(case side2=>exact x3.out);rintro e H3 ⟨m4,rfl,e8,hb⟩;refine ⟨_,rfl,?_⟩;have b6:=A_ (Kd.R_lower e8 (below_size (bl HB)));replace b3:=rB b3 hb;replace b4:=A_ (Kd.S_below (by (with_reducible repeat (first | apply Kd.S_alloc | apply Kd.S_drewN | apply Kd.S_drew));exact b4.out) hb);replace HB:=bB HB hb;(try clear hb);obtain ⟨e4,e5,z0⟩:=Kd.R_slice b3.out;subst z0;obtain ⟨e9,h0,z1⟩:=Kd.S_slice b4.out;subst z1;obtain ⟨e6,e7,z2⟩:=Kd.R_slice b6.out;subst z2) | ((with_reducible refine gate_callee (f:=57) rfl ?_);refine gL (some 27) Try.func57 #[.slice e4 b0.length e5,.slice e9 b1.length h0,.slice e6 b2.length e7] ?_;(with_reducible refine (shares_Load.calls k _ _ b0 _ _ b1 _ _ b2 b8 d2 _ ?side1 ?side2 ?side3 ?side4 ?side5 ?side6 A7.out).mono ?_);(case side1=>repeat (first | exact (Kd.R_reads' b3.out).2.2 | (with_reducible refine Kd.C_alloc ?_ _) | (with_reducible refine Kd.C_drewN ?_ _) | (with_reducible refine Kd.C_drew ?_)));(case side2=>exact (Kd.R_reads' b3.out).2.1);(case side3=>repeat (first | exact (Kd.S_reads' b4.out).2.2 | (with_reducible refine Kd.C_alloc ?_ _) | (with_reducible refine Kd.C_drewN ?_ _) | (with_reducible refine Kd.C_drew ?_)));(case side4=>exact (Kd.S_reads' b4.out).2.1);(case side5=>repeat (first | exact (Kd.R_reads' b6.out).2.2 | (with_reducible refine Kd.C_alloc ?_ _) | (with_reducible refine Kd.C_drewN ?_ _) | (with_reducible refine Kd.C_drew ?_)));(case side6=>exact (Kd.R_reads' b6.out).2.1);rintro e H4 ⟨h3,rfl,e8,hb⟩;refine ⟨_,rfl,?_⟩;have d1:=A_ (Kd.R_lower (Kd.R_new' e8 (Kd.R_lt (rs b6))) (below_size (bl HB)));replace b3:=rB b3 hb;replace b4:=A_ (Kd.S_below (by (with_reducible repeat (first | apply Kd.S_alloc | apply Kd.S_drewN | apply Kd.S_drew));exact b4.out) hb);replace b6:=A_ (Kd.R_elder' (rs b6) (Kd.R_base e8) hb);replace HB:=bB HB hb;(try clear hb)) | ((with_reducible refine gate_callee (f:=58) rfl ?_);refine gL (some 34) Try.func58 #[.slice e4 b0.length e5,.slice e9 b1.length h0,.slice e6 b2.length e7] ?_;(with_reducible refine (shares_Better.calls k _ _ b0 _ _ b1 _ _ b2 b9 d0 _ ?side1 ?side2 ?side3 ?side4 ?side5 ?side6 A8.out).mono ?_);(case side1=>repeat (first | exact (Kd.R_reads' b3.out).2.2 | (with_reducible refine Kd.C_alloc ?_ _) | (with_reducible refine Kd.C_drewN ?_ _) | (with_reducible refine Kd.C_drew ?_)));(case side2=>exact (Kd.R_reads' b3.out).2.1);(case side3=>repeat (first | exact (Kd.S_reads' b4.out).2.2 | (with_reducible refine Kd.C_alloc ?_ _) | (with_reducible refine Kd.C_drewN ?_ _) | (with_reducible refine Kd.C_drew ?_)));(case side4=>exact (Kd.S_reads' b4.out).2.1);(case side5=>repeat (first | exact (Kd.R_reads' b6.out).2.2 | (with_reducible refine Kd.C_alloc ?_ _) | (with_reducible refine Kd.C_drewN ?_ _) | (with_reducible refine Kd.C_drew ?_)));(case side6=>exact (Kd.R_reads' b6.out).2.1);rintro e H5 ⟨rfl,hb⟩;refine ⟨_,rfl,?_⟩;replace b3:=rB b3 hb;replace b4:=A_ (Kd.S_below (by (with_reducible repeat (first | apply Kd.S_alloc | apply Kd.S_drewN | apply Kd.S_drew));exact b4.out) hb);replace b6:=rB b6 hb;replace d1:=rB d1 hb;replace HB:=bB HB hb;(try clear hb)) | ((with_reducible refine gate_callee (f:=41) rfl ?_);refine gL (some 39) Try.func41 #[.slice e4 b0.length e5,.slice e9 b1.length h0] ?_;(with_reducible refine (numnahref07_Users.calls k _ _ b0 _ _ b1 true _ ?side1 ?side2 ?side3 ?side4 A9.out).mono ?_);(case side1=>repeat (first | exact (Kd.R_reads' b3.out).2.2 | (with_reducible refine Kd.C_alloc ?_ _) | (with_reducible refine Kd.C_drewN ?_ _) | (with_reducible refine Kd.C_drew ?_)));(case side2=>exact (Kd.R_reads' b3.out).2.1);(case side3=>repeat (first | exact (Kd.S_reads' b4.out).2.2 | (with_reducible refine Kd.C_alloc ?_ _) | (with_reducible refine Kd.C_drewN ?_ _) | (with_reducible refine Kd.C_drew ?_)));(case side4=>exact (Kd.S_reads' b4.out).2.1);rintro e w' ⟨rfl,⟨nd,rfl⟩⟩;refine ⟨_,rfl,?_⟩) | ((with_reducible refine gate_callee (f:=59) rfl ?_);refine gL (some 61) Try.func59 #[.slice e9 b1.length h0,.slice e6 b2.length e7] ?_;(with_reducible refine (numnahref07_Rates.calls k _ _ b1 _ _ b2 true _ ?side1 ?side2 ?side3 ?side4 C6.out).mono ?_);(case side1=>repeat (first | exact (Kd.S_reads' b4.out).2.2 | (with_reducible refine Kd.C_alloc ?_ _) | (with_reducible refine Kd.C_drewN ?_ _) | (with_reducible refine Kd.C_drew ?_)));(case side2=>exact (Kd.S_reads' b4.out).2.1);(case side3=>repeat (first | exact (Kd.R_reads' b6.out).2.2 | (with_reducible refine Kd.C_alloc ?_ _) | (with_reducible refine Kd.C_drewN ?_ _) | (with_reducible refine Kd.C_drew ?_)));(case side4=>exact (Kd.R_reads' b6.out).2.1);rintro e H6 ⟨rfl,hb⟩;refine ⟨_,rfl,?_⟩;replace b3:=rB b3 hb;replace b4:=A_ (Kd.S_below (by (with_reducible repeat (first | apply Kd.S_alloc | apply Kd.S_drewN | apply Kd.S_drew));exact b4.out) hb);replace b6:=rB b6 hb;replace d1:=rB d1 hb;replace HB:=bB HB hb;(try clear hb)))
 (try simp only [Act.put,List.setIfInBounds_toArray,List.set_cons_zero,List.set_cons_succ])
 go_cut [89] (fun E6 wc=>∃ (kq:Nat) (h4:Bool),E6 = .bool h4 ∧ Aside0 (numnahlaw07_SharesLoads.j0 kq b0 b1 b2 b8 b9 d0 h4 = some r) ∧ Aside0 (kq ≤ k) ∧ Aside0 (Kd.R (Kd.int .i64) 3 wc w.heap.size (fun _=>True) (.slice e4 b0.length e5) b0) ∧ Aside0 (Kd.S k45 45 wc w.heap.size (fun k_=>some k_ ≠ ((.slice e4 b0.length e5):Value).ownBlock) (.slice e9 b1.length h0) b1) ∧ Aside0 (Kd.R k23 23 wc w.heap.size (fun k_=>some k_ ≠ (h3:Value).ownBlock) (.slice e6 b2.length e7) b2) ∧ Aside0 (Kd.R k23 23 wc w.heap.size (fun k_=>some k_ ≠ ((.slice e6 b2.length e7):Value).ownBlock) h3 b8) ∧ Aside0 (Below w.heap.size w wc))
 case first =>
  have H:=o4.out
  clear o4
  by_cases j9:(b8.length:Int) = (b0.length:Int)
  case neg =>
   rw [if_neg j9] at H
   have h6:((b8.length:Int) == (b0.length:Int)) = false:=beq_eq_false_iff_ne.mpr j9
   have r3:((b8.length:Int) != (b0.length:Int)) = true:=bne_iff_ne.mpr j9
   have r4:(b8.length == b0.length) = false:=by first | simpa using j9 | (simp at j9 ⊢;omega)
   (first | rw [h6] | (simp only [i64_w,i32_w];rw [h6]) | skip)
   have H':=A_ H
   clear H
   obtain ⟨E7,E8,z3⟩:=Kd.R_slice d1.out
   subst z3
   go_wp2
   go_meet
   case rel=>exact ⟨_,(true),(by first | rfl | (simp;done) | (simp [*];done)),H',⟨by first | omega | exact Nat.le_refl _⟩,⟨by (with_reducible repeat (first | apply Kd.R_alloc | apply Kd.R_drewN | apply Kd.R_drew));exact b3.out⟩,⟨by (with_reducible repeat (first | apply Kd.S_alloc | apply Kd.S_drewN | apply Kd.S_drew));exact Kd.S_mono b4.out (fun _ hk=>hk.2)⟩,⟨by (with_reducible repeat (first | apply Kd.R_alloc | apply Kd.R_drewN | apply Kd.R_drew));exact Kd.R_mono b6.out (fun _ hk=>hk.2)⟩,⟨by (with_reducible repeat (first | apply Kd.R_alloc | apply Kd.R_drewN | apply Kd.R_drew));exact Kd.R_mono d1.out (fun _ hk=>hk.2)⟩,⟨bl HB⟩⟩
  rw [if_pos j9] at H
  have h6:((b8.length:Int) == (b0.length:Int)) = true:=beq_iff_eq.mpr j9
  have r3:((b8.length:Int) != (b0.length:Int)) = false:=bne_eq_false_iff_eq.mpr j9
  have r4:(b8.length == b0.length) = true:=by first | simpa using j9 | (simp at j9 ⊢;omega)
  clear j9
  (first | rw [h6] | (simp only [i64_w,i32_w];rw [h6]) | skip)
  have H':=A_ H
  clear H
  obtain ⟨E9,F0,z4⟩:=Kd.R_slice d1.out
  subst z4
  go_wp2
  go_meet
  case rel=>exact ⟨_,((d2 != 0)),(by first | rfl | (simp;done) | (simp [*];done)),H',⟨by first | omega | exact Nat.le_refl _⟩,⟨by (with_reducible repeat (first | apply Kd.R_alloc | apply Kd.R_drewN | apply Kd.R_drew));exact b3.out⟩,⟨by (with_reducible repeat (first | apply Kd.S_alloc | apply Kd.S_drewN | apply Kd.S_drew));exact Kd.S_mono b4.out (fun _ hk=>hk.2)⟩,⟨by (with_reducible repeat (first | apply Kd.R_alloc | apply Kd.R_drewN | apply Kd.R_drew));exact Kd.R_mono b6.out (fun _ hk=>hk.2)⟩,⟨by (with_reducible repeat (first | apply Kd.R_alloc | apply Kd.R_drewN | apply Kd.R_drew));exact Kd.R_mono d1.out (fun _ hk=>hk.2)⟩,⟨bl HB⟩⟩
 case rest =>
  clear o4
  obtain ⟨kq,h4,rfl,HA,i7,d6,d4,d5,e1,HB⟩:=hcut
  cases kq with
  | zero=>exact absurd HA.out (by simp [numnahlaw07_SharesLoads.j0])
  | succ r5 =>
   have H:=HA.out
   clear HA
   simp only [numnahlaw07_SharesLoads.j0] at H
   by_cases t5:h4 = true
   ·subst t5
    rw [if_pos rfl] at H
    exact absurd ((Option.some.inj H).trans HRT.out) (by decide)
   replace t5:=Bool.eq_false_iff.mpr t5
   subst t5
   rw [if_neg (show ¬ (false = true) by decide)] at H
   have H':=A_ H
   clear H
   go_wp2
   go_loopg [14] r5 (fun kq F1 w'=>∃ (d3:Int),F1 = .int .i64 d3 ∧ Aside0 (numnahlaw07_SharesLoads.l0 kq b0 b1 b2 b8 b9 d0 d3 = some r) ∧ Aside0 (kq ≤ r5) ∧ Aside0 (Kd.R (Kd.int .i64) 3 w' w.heap.size (fun _=>True) (.slice e4 b0.length e5) b0) ∧ Aside0 (Kd.S k45 45 w' w.heap.size (fun k_=>some k_ ≠ ((.slice e4 b0.length e5):Value).ownBlock) (.slice e9 b1.length h0) b1) ∧ Aside0 (Kd.R k23 23 w' w.heap.size (fun k_=>some k_ ≠ (h3:Value).ownBlock) (.slice e6 b2.length e7) b2) ∧ Aside0 (Kd.R k23 23 w' w.heap.size (fun k_=>some k_ ≠ ((.slice e6 b2.length e7):Value).ownBlock) h3 b8) ∧ Aside0 (Below w.heap.size w w'))
   case atStart=>exact ⟨(0),(by first | rfl | (simp;done) | (simp [*];done)),H',⟨Nat.le_refl _⟩,⟨by (with_reducible repeat (first | apply Kd.R_alloc | apply Kd.R_drewN | apply Kd.R_drew));exact d6.out⟩,⟨by (with_reducible repeat (first | apply Kd.S_alloc | apply Kd.S_drewN | apply Kd.S_drew));exact d4.out⟩,⟨by (with_reducible repeat (first | apply Kd.R_alloc | apply Kd.R_drewN | apply Kd.R_drew));exact d5.out⟩,⟨by (with_reducible repeat (first | apply Kd.R_alloc | apply Kd.R_drewN | apply Kd.R_drew));exact e1.out⟩,⟨bl HB⟩⟩
   case round =>
    clear H'
    obtain ⟨d3,rfl,HA,p0,d6,d4,d5,e1,HB⟩:=hrel
    cases gk with
    | zero=>exact absurd HA.out (by simp [numnahlaw07_SharesLoads.l0])
    | succ k2 =>
     have H:=HA.out
     clear HA
     simp only [numnahlaw07_SharesLoads.l0] at H
     by_cases p1:d3 < (b0.length:Int)
     ·rw [if_pos p1] at H
      have r6:=decide_eq_true p1
      clear p1
      replace H:=gd H
      obtain ⟨C8,H⟩:=H
      have C9:=decide_eq_true C8
      clear C8
      replace H:=gd H
      obtain ⟨D0,H⟩:=H
      have D1:=decide_eq_true D0
      clear D0
      replace H:=Option.bind_eq_some_iff.mp H
      obtain ⟨⟨h7,h8⟩,A300,H⟩:=H
      replace H:(if (!(((rd_T23 b8 d3).f0) == h7) || (!(((rd_T23 b8 d3).f1) == h8))) = true then (some false) else (numnahlaw07_SharesLoads.l0 k2 b0 b1 b2 b8 b9 d0 (wrap64 (d3 + 1)))) = some r:=H
      have F2:=A_ A300
      clear A300
      by_cases p2:(!(((rd_T23 b8 d3).f0) == h7) || (!(((rd_T23 b8 d3).f1) == h8))) = true
      ·rw [if_pos p2] at H
       have r7:(!(((rd_T23 b8 d3).f0) == h7) || (!(((rd_T23 b8 d3).f1) == h8))) = true:=p2
       clear p2
       exact absurd ((Option.some.inj H).trans HRT.out) (by decide)
      rw [if_neg p2] at H
      have r7:(!(((rd_T23 b8 d3).f0) == h7) || (!(((rd_T23 b8 d3).f1) == h8))) = false:=by simpa using p2
      clear p2
      have H':=A_ H
      clear H
      try go_wp2
      replace d6:=rD d6
      replace d4:=A_ (Kd.S_drew d4.out)
      replace d5:=rD d5
      replace e1:=rD e1
      replace HB:=bD HB
      obtain ⟨F3,F4,r8⟩:=Kd.R_slice e1.out
      (first | subst r8 | (injection r8 with D2 F5 D3;have F6:=D2.symm;have F7:=D3.symm;clear D2 F5 D3;subst F6;subst F7))
      have l5:0 ≤ (d3:Int):=of_decide_eq_true (by first | (with_reducible assumption) | assumption)
      have l6:d3 < (b8.length:Int):=of_decide_eq_true (by first | (with_reducible assumption) | assumption)
      obtain ⟨i4,r9,h9,i0⟩:=at_T23 (Kd.R_reads' e1.out).2.2 d3 l5 l6
      cases r9
      replace l5:=eq_true l5
      replace l6:=eq_true l6
      refine start_ (n:=9) (S:=fun w'=>w'.cell? (i4.add ((d3).toNat * 2)) = some (.int .i64 ((rd_T23 b8 d3).f0)) ∧ w'.cell? ⟨(i4.add ((d3).toNat * 2)).block,(i4.add ((d3).toNat * 2)).off + 1,none⟩ = some (.int .i64 ((rd_T23 b8 d3).f1))) (ds:=[]) (ba 9 0) (by kernel_rfl) rfl rfl ⟨h9,i0⟩ (fun hHeld=>?_);refine with_tabW numnahlaw07_SharesLoads.tab13 numnahlaw07_SharesLoads.bits13 (fun HT_ HW_=>?_)
      generalize wr.drew = H7 at d6 d4 d5 e1 HB h9 i0 hHeld ⊢
      refine pq 0 96 1 HT_ ?_
      refine pq 1 97 3 HT_ ?_
      refine pq 2 98 7 HT_ ?_
      refine pq 4 100 23 HT_ ?_
      refine pq 5 101 55 HT_ ?_
      refine pq 6 102 119 HT_ ?_
      refine tq 3 99 127 HT_ HW_ hHeld ?_
      refine oq 7 103 255 HT_ (fun K hK=>?_)
      refine gq Try.func60 #[.slice e9 b1.length h0,.slice e6 b2.length e7,.int .i64 d3] ?_
      with_reducible refine (numnahref07_Load.calls k2 _ _ b1 _ _ b2 d3 h7 h8 _ ?side1 ?side2 ?side3 ?side4 F2.out).mono ?_
      (case side1=>repeat (first | exact (Kd.S_reads' d4.out).2.2 | (with_reducible refine Kd.C_alloc ?_ _) | (with_reducible refine Kd.C_drewN ?_ _) | (with_reducible refine Kd.C_drew ?_)))
      (case side2=>exact (Kd.S_reads' d4.out).2.1)
      (case side3=>repeat (first | exact (Kd.R_reads' d5.out).2.2 | (with_reducible refine Kd.C_alloc ?_ _) | (with_reducible refine Kd.C_drewN ?_ _) | (with_reducible refine Kd.C_drew ?_)))
      (case side4=>exact (Kd.R_reads' d5.out).2.1)
      rintro e H8 ⟨rfl,hb⟩
      have F8:=(hb.cell (World.block_lt_of_cell? _ _ (hHeld.1))).trans (hHeld.1)
      have F9:=(hb.cell (World.block_lt_of_cell? _ _ (hHeld.2))).trans (hHeld.2)
      refine ⟨_,rfl,?_⟩
      replace d6:=rB d6 hb
      replace d4:=A_ (Kd.S_below (by (with_reducible repeat (first | apply Kd.S_alloc | apply Kd.S_drewN | apply Kd.S_drew));exact d4.out) hb)
      replace d5:=rB d5 hb
      replace e1:=rB e1 hb
      replace HB:=bB HB hb
      (try clear hb)
      refine hz hK (fun hHeld=>?_)
      clear hK K
      refine nq 103 ?_
      refine pq 8 104 511 HT_ ?_
      refine done_ (done_of HT_.out (by kernel_rfl)) ?_
      try go_wp2
      go_roundg k2
      case measure=>have:=i7.out;have:=p0.out;omega
      case rel=>exact ⟨(wrap64 (d3 + 1)),(by first | rfl | (simp;done) | (simp [*];done)),H',⟨by have:=i7.out;have:=p0.out;omega⟩,⟨by (with_reducible repeat (first | apply Kd.R_alloc | apply Kd.R_drewN | apply Kd.R_drew));exact d6.out⟩,⟨by (with_reducible repeat (first | apply Kd.S_alloc | apply Kd.S_drewN | apply Kd.S_drew));exact d4.out⟩,⟨by (with_reducible repeat (first | apply Kd.R_alloc | apply Kd.R_drewN | apply Kd.R_drew));exact d5.out⟩,⟨by (with_reducible repeat (first | apply Kd.R_alloc | apply Kd.R_drewN | apply Kd.R_drew));exact e1.out⟩,⟨bl HB⟩⟩
     rw [if_neg p1] at H
     have r6:=decide_eq_false p1
     clear p1
     replace H:=Option.bind_eq_some_iff.mp H
     obtain ⟨i5,s0,H⟩:=H
     replace H:(if i5 = true then (numnahlaw07_SharesLoads.l1 k2 b0 b1 b2 b9 d0 (-1) (wrap64 ((b1.length:Int) - 1))) else (if b9 = 0 then (if d0 = 10 then ((numnahlaw07_awake.f k2).bind fun h1=>(some h1)) else (some false)) else (some false))) = some r:=H
     have D4:=A_ s0
     clear s0
     by_cases t6:i5 = true
     case neg =>
      replace t6:=Bool.eq_false_iff.mpr t6
      subst t6
      rw [if_neg (show ¬ (false = true) by decide)] at H
      by_cases o5:b9 = 0
      case neg =>
       rw [if_neg o5] at H
       have s1:(b9 == 0) = false:=beq_eq_false_iff_ne.mpr o5
       have s2:(b9 != 0) = true:=bne_iff_ne.mpr o5
       exact absurd ((Option.some.inj H).trans HRT.out) (by decide)
      rw [if_pos o5] at H
      have s1:(b9 == 0) = true:=beq_iff_eq.mpr o5
      have s2:(b9 != 0) = false:=bne_eq_false_iff_eq.mpr o5
      clear o5
      by_cases o6:d0 = 10
      case neg =>
       rw [if_neg o6] at H
       have s3:(d0 == 10) = false:=beq_eq_false_iff_ne.mpr o6
       have s4:(d0 != 10) = true:=bne_iff_ne.mpr o6
       exact absurd ((Option.some.inj H).trans HRT.out) (by decide)
      rw [if_pos o6] at H
      have s3:(d0 == 10) = true:=beq_iff_eq.mpr o6
      have s4:(d0 != 10) = false:=bne_eq_false_iff_eq.mpr o6
      clear o6
      replace H:=Option.bind_eq_some_iff.mp H
      obtain ⟨h1,s5,H⟩:=H
      replace H:(some h1) = some r:=H
      have G0:=A_ s5
      clear s5
      obtain rfl:=Option.some.inj H
      go_wp2_with (first | ((with_reducible refine gate_callee (f:=61) rfl ?_);refine gL (some 108) Try.func61 #[.slice e4 b0.length e5,.slice e9 b1.length h0,.slice e6 b2.length e7] ?_;(with_reducible refine (numnahref07_Possible.calls k2 _ _ b0 _ _ b1 _ _ b2 false _ ?side1 ?side2 ?side3 ?side4 ?side5 ?side6 D4.out).mono ?_);(case side1=>repeat (first | exact (Kd.R_reads' d6.out).2.2 | (with_reducible refine Kd.C_alloc ?_ _) | (with_reducible refine Kd.C_drewN ?_ _) | (with_reducible refine Kd.C_drew ?_)));(case side2=>exact (Kd.R_reads' d6.out).2.1);(case side3=>repeat (first | exact (Kd.S_reads' d4.out).2.2 | (with_reducible refine Kd.C_alloc ?_ _) | (with_reducible refine Kd.C_drewN ?_ _) | (with_reducible refine Kd.C_drew ?_)));(case side4=>exact (Kd.S_reads' d4.out).2.1);(case side5=>repeat (first | exact (Kd.R_reads' d5.out).2.2 | (with_reducible refine Kd.C_alloc ?_ _) | (with_reducible refine Kd.C_drewN ?_ _) | (with_reducible refine Kd.C_drew ?_)));(case side6=>exact (Kd.R_reads' d5.out).2.1);rintro e H9 ⟨rfl,hb⟩;refine ⟨_,rfl,?_⟩;replace d6:=rB d6 hb;replace d4:=A_ (Kd.S_below (by (with_reducible repeat (first | apply Kd.S_alloc | apply Kd.S_drewN | apply Kd.S_drew));exact d4.out) hb);replace d5:=rB d5 hb;replace e1:=rB e1 hb;replace HB:=bB HB hb;(try clear hb)) | (go_at_call 22;(with_reducible refine (numnahlaw07_awake.calls k2  h1 _ G0.out).mono ?_);rintro e I0 ⟨rfl,hb⟩;replace d6:=rB d6 hb;replace d4:=A_ (Kd.S_below (by (with_reducible repeat (first | apply Kd.S_alloc | apply Kd.S_drewN | apply Kd.S_drew));exact d4.out) hb);replace d5:=rB d5 hb;replace e1:=rB e1 hb;replace HB:=bB HB hb;(try clear hb)))
      go_ret
      exact ⟨by first | rfl | (simp [errW_none,errW_some] <;> rfl) | (simp [*,errW_none,errW_some] <;> rfl),bl HB⟩
     subst t6
     rw [if_pos rfl] at H
     have H':=A_ H
     clear H
     go_wp2_with (first | ((with_reducible refine gate_callee (f:=61) rfl ?_);refine gL (some 108) Try.func61 #[.slice e4 b0.length e5,.slice e9 b1.length h0,.slice e6 b2.length e7] ?_;(with_reducible refine (numnahref07_Possible.calls k2 _ _ b0 _ _ b1 _ _ b2 true _ ?side1 ?side2 ?side3 ?side4 ?side5 ?side6 D4.out).mono ?_);(case side1=>repeat (first | exact (Kd.R_reads' d6.out).2.2 | (with_reducible refine Kd.C_alloc ?_ _) | (with_reducible refine Kd.C_drewN ?_ _) | (with_reducible refine Kd.C_drew ?_)));(case side2=>exact (Kd.R_reads' d6.out).2.1);(case side3=>repeat (first | exact (Kd.S_reads' d4.out).2.2 | (with_reducible refine Kd.C_alloc ?_ _) | (with_reducible refine Kd.C_drewN ?_ _) | (with_reducible refine Kd.C_drew ?_)));(case side4=>exact (Kd.S_reads' d4.out).2.1);(case side5=>repeat (first | exact (Kd.R_reads' d5.out).2.2 | (with_reducible refine Kd.C_alloc ?_ _) | (with_reducible refine Kd.C_drewN ?_ _) | (with_reducible refine Kd.C_drew ?_)));(case side6=>exact (Kd.R_reads' d5.out).2.1);rintro e I1 ⟨rfl,hb⟩;refine ⟨_,rfl,?_⟩;replace d6:=rB d6 hb;replace d4:=A_ (Kd.S_below (by (with_reducible repeat (first | apply Kd.S_alloc | apply Kd.S_drewN | apply Kd.S_drew));exact d4.out) hb);replace d5:=rB d5 hb;replace e1:=rB e1 hb;replace HB:=bB HB hb;(try clear hb)))
     go_loopg [15,16] k2 (fun kq G1 G2 w'=>∃ (e3:Int) (e2:Int),G1 = .int .i64 e3 ∧ G2 = .int .i64 e2 ∧ Aside0 (numnahlaw07_SharesLoads.l1 kq b0 b1 b2 b9 d0 e3 e2 = some r) ∧ Aside0 (kq ≤ k2) ∧ Aside0 (Kd.R (Kd.int .i64) 3 w' w.heap.size (fun _=>True) (.slice e4 b0.length e5) b0) ∧ Aside0 (Kd.S k45 45 w' w.heap.size (fun k_=>some k_ ≠ ((.slice e4 b0.length e5):Value).ownBlock) (.slice e9 b1.length h0) b1) ∧ Aside0 (Kd.R k23 23 w' w.heap.size (fun _=>True) (.slice e6 b2.length e7) b2) ∧ Aside0 (Below w.heap.size w w'))
     case atStart=>exact ⟨((-1)),(wrap64 ((b1.length:Int) - 1)),(by first | rfl | (simp;done) | (simp [*];done)),(by first | rfl | (simp;done) | (simp [*];done)),H',⟨Nat.le_refl _⟩,⟨by (with_reducible repeat (first | apply Kd.R_alloc | apply Kd.R_drewN | apply Kd.R_drew));exact d6.out⟩,⟨by (with_reducible repeat (first | apply Kd.S_alloc | apply Kd.S_drewN | apply Kd.S_drew));exact d4.out⟩,⟨by (with_reducible repeat (first | apply Kd.R_alloc | apply Kd.R_drewN | apply Kd.R_drew));exact Kd.R_mono d5.out (fun _ hk=>trivial)⟩,⟨bl HB⟩⟩
     case round =>
      clear H'
      obtain ⟨e3,e2,rfl,rfl,HA,t7,d6,d4,d5,HB⟩:=hrel
      cases gk with
      | zero=>exact absurd HA.out (by simp [numnahlaw07_SharesLoads.l1])
      | succ k3 =>
       have H:=HA.out
       clear HA
       simp only [numnahlaw07_SharesLoads.l1] at H
       by_cases p3:e2 ≥ 0
       case neg =>
        rw [if_neg p3] at H
        have s6:=decide_eq_false p3
        clear p3
        by_cases o7:b9 = e3
        case neg =>
         rw [if_neg o7] at H
         have s7:(b9 == e3) = false:=beq_eq_false_iff_ne.mpr o7
         have s8:(b9 != e3) = true:=bne_iff_ne.mpr o7
         exact absurd ((Option.some.inj H).trans HRT.out) (by decide)
        rw [if_pos o7] at H
        have s7:(b9 == e3) = true:=beq_iff_eq.mpr o7
        have s8:(b9 != e3) = false:=bne_eq_false_iff_eq.mpr o7
        clear o7
        by_cases o8:d0 = 0
        case neg =>
         rw [if_neg o8] at H
         have s9:(d0 == 0) = false:=beq_eq_false_iff_ne.mpr o8
         have t0:(d0 != 0) = true:=bne_iff_ne.mpr o8
         exact absurd ((Option.some.inj H).trans HRT.out) (by decide)
        rw [if_pos o8] at H
        have s9:(d0 == 0) = true:=beq_iff_eq.mpr o8
        have t0:(d0 != 0) = false:=bne_eq_false_iff_eq.mpr o8
        clear o8
        replace H:=Option.bind_eq_some_iff.mp H
        obtain ⟨i6,t1,H⟩:=H
        replace H:(some i6) = some r:=H
        have G3:=A_ t1
        clear t1
        obtain rfl:=Option.some.inj H
        go_wp2_with (first | (go_at_call 22;(with_reducible refine (numnahlaw07_awake.calls k3  i6 _ G3.out).mono ?_);rintro e I2 ⟨rfl,hb⟩;replace d6:=rB d6 hb;replace d4:=A_ (Kd.S_below (by (with_reducible repeat (first | apply Kd.S_alloc | apply Kd.S_drewN | apply Kd.S_drew));exact d4.out) hb);replace d5:=rB d5 hb;replace HB:=bB HB hb;(try clear hb)))
        go_ret
        exact ⟨by first | rfl | (simp [errW_none,errW_some] <;> rfl) | (simp [*,errW_none,errW_some] <;> rfl),bl HB⟩
       rw [if_pos p3] at H
       have s6:=decide_eq_true p3
       clear p3
       replace H:=Option.bind_eq_some_iff.mp H
       obtain ⟨h2,t2,H⟩:=H
       replace H:(if h2 < 0 then (numnahlaw07_SharesLoads.l1 k3 b0 b1 b2 b9 d0 e2 (wrap64 (e2 - 1))) else (numnahlaw07_SharesLoads.l1 k3 b0 b1 b2 b9 d0 e3 (wrap64 (e2 - 1)))) = some r:=H
       have D5:=A_ t2
       clear t2
       by_cases p4:h2 < 0
       ·rw [if_pos p4] at H
        have t3:=decide_eq_true p4
        clear p4
        have H':=A_ H
        clear H
        go_wp2_with (first | ((with_reducible refine gate_callee (f:=45) rfl ?_);refine gL (some 130) Try.func45 #[.slice e4 b0.length e5,.slice e9 b1.length h0,.slice e6 b2.length e7,.int .i64 e2] ?_;(with_reducible refine (numnahref07_Holder.calls k3 _ _ b0 _ _ b1 _ _ b2 e2 h2 _ ?side1 ?side2 ?side3 ?side4 ?side5 ?side6 D5.out).mono ?_);(case side1=>repeat (first | exact (Kd.R_reads' d6.out).2.2 | (with_reducible refine Kd.C_alloc ?_ _) | (with_reducible refine Kd.C_drewN ?_ _) | (with_reducible refine Kd.C_drew ?_)));(case side2=>exact (Kd.R_reads' d6.out).2.1);(case side3=>repeat (first | exact (Kd.S_reads' d4.out).2.2 | (with_reducible refine Kd.C_alloc ?_ _) | (with_reducible refine Kd.C_drewN ?_ _) | (with_reducible refine Kd.C_drew ?_)));(case side4=>exact (Kd.S_reads' d4.out).2.1);(case side5=>repeat (first | exact (Kd.R_reads' d5.out).2.2 | (with_reducible refine Kd.C_alloc ?_ _) | (with_reducible refine Kd.C_drewN ?_ _) | (with_reducible refine Kd.C_drew ?_)));(case side6=>exact (Kd.R_reads' d5.out).2.1);rintro e I3 ⟨rfl,hb⟩;refine ⟨_,rfl,?_⟩;replace d6:=rB d6 hb;replace d4:=A_ (Kd.S_below (by (with_reducible repeat (first | apply Kd.S_alloc | apply Kd.S_drewN | apply Kd.S_drew));exact d4.out) hb);replace d5:=rB d5 hb;replace HB:=bB HB hb;(try clear hb)))
        go_roundg k3
        case measure=>have:=i7.out;have:=p0.out;have:=t7.out;omega
        case rel=>exact ⟨(e2),(wrap64 (e2 - 1)),(by first | rfl | (simp;done) | (simp [*];done)),(by first | rfl | (simp;done) | (simp [*];done)),H',⟨by have:=i7.out;have:=p0.out;have:=t7.out;omega⟩,⟨by (with_reducible repeat (first | apply Kd.R_alloc | apply Kd.R_drewN | apply Kd.R_drew));exact d6.out⟩,⟨by (with_reducible repeat (first | apply Kd.S_alloc | apply Kd.S_drewN | apply Kd.S_drew));exact d4.out⟩,⟨by (with_reducible repeat (first | apply Kd.R_alloc | apply Kd.R_drewN | apply Kd.R_drew));exact d5.out⟩,⟨bl HB⟩⟩
       rw [if_neg p4] at H
       have t3:=decide_eq_false p4
       clear p4
       have H':=A_ H
       clear H
       go_wp2_with (first | ((with_reducible refine gate_callee (f:=45) rfl ?_);refine gL (some 130) Try.func45 #[.slice e4 b0.length e5,.slice e9 b1.length h0,.slice e6 b2.length e7,.int .i64 e2] ?_;(with_reducible refine (numnahref07_Holder.calls k3 _ _ b0 _ _ b1 _ _ b2 e2 h2 _ ?side1 ?side2 ?side3 ?side4 ?side5 ?side6 D5.out).mono ?_);(case side1=>repeat (first | exact (Kd.R_reads' d6.out).2.2 | (with_reducible refine Kd.C_alloc ?_ _) | (with_reducible refine Kd.C_drewN ?_ _) | (with_reducible refine Kd.C_drew ?_)));(case side2=>exact (Kd.R_reads' d6.out).2.1);(case side3=>repeat (first | exact (Kd.S_reads' d4.out).2.2 | (with_reducible refine Kd.C_alloc ?_ _) | (with_reducible refine Kd.C_drewN ?_ _) | (with_reducible refine Kd.C_drew ?_)));(case side4=>exact (Kd.S_reads' d4.out).2.1);(case side5=>repeat (first | exact (Kd.R_reads' d5.out).2.2 | (with_reducible refine Kd.C_alloc ?_ _) | (with_reducible refine Kd.C_drewN ?_ _) | (with_reducible refine Kd.C_drew ?_)));(case side6=>exact (Kd.R_reads' d5.out).2.1);rintro e I4 ⟨rfl,hb⟩;refine ⟨_,rfl,?_⟩;replace d6:=rB d6 hb;replace d4:=A_ (Kd.S_below (by (with_reducible repeat (first | apply Kd.S_alloc | apply Kd.S_drewN | apply Kd.S_drew));exact d4.out) hb);replace d5:=rB d5 hb;replace HB:=bB HB hb;(try clear hb)))
       go_roundg k3
       case measure=>have:=i7.out;have:=p0.out;have:=t7.out;omega
       case rel=>exact ⟨(e3),(wrap64 (e2 - 1)),(by first | rfl | (simp;done) | (simp [*];done)),(by first | rfl | (simp;done) | (simp [*];done)),H',⟨by have:=i7.out;have:=p0.out;have:=t7.out;omega⟩,⟨by (with_reducible repeat (first | apply Kd.R_alloc | apply Kd.R_drewN | apply Kd.R_drew));exact d6.out⟩,⟨by (with_reducible repeat (first | apply Kd.S_alloc | apply Kd.S_drewN | apply Kd.S_drew));exact d4.out⟩,⟨by (with_reducible repeat (first | apply Kd.R_alloc | apply Kd.R_drewN | apply Kd.R_drew));exact d5.out⟩,⟨bl HB⟩⟩
end Go.Proofs.Ytjohcjfmlhihbaa.G
set_option linter.unusedSectionVars false
namespace Go.Proofs.Ytjohcjfmlhihbaa.P
open Go Go.RowKit Go.Proofs.Ytjohcjfmlhihbaa.G
open Go.Proofs.YtjohcjfmlhihbaaW.PrintWords Go.Proofs.YtjohcjfmlhihbaaW.PrintMore
section
variable {p:List Int} {u:List S45} (hN:IsN p u) {x:List Rat} (hl:x.length = u.length) (hx:∀ q ∈ x,0 ≤ q ∧ Sm 1000000 100 q)
include hN hl hx
theorem loads_l1:∀ (i:Nat) (w:Int),i ≤ u.length → w = firstI (unheld p u x) (u.length - i) i → Ev (fun k=>numnahlaw07_SharesLoads.l1 k p u (encL x) (firstI (unheld p u x) u.length 0) 0 w ((i:Int) - 1)) true:=by
 intro i
 have h6:=hN.u6
 induction i with
 | zero =>
  intro w hi hw
  refine Ev.step (f:=fun k=>(numnahlaw07_awake.f k).bind fun t=>some t) (fun k=>?_) (Ev.bind ev_awake (Ev.now _))
  rw [numnahlaw07_SharesLoads.l1,if_neg (by omega),if_pos (by rw [hw];rfl),if_pos rfl]
 | succ i ih =>
  intro w hi hw
  have hil:i < u.length:=by omega
  have e:((i + 1:Nat):Int) - 1 = (i:Int):=by omega
  rw [e]
  have hd:u.length - i = (u.length - (i + 1)) + 1:=by omega
  have hw2:wrap64 ((i:Int) - 1) = (i:Int) - 1:=wrap_id (by omega) (by omega)
  refine Ev.step (fun k=>by rw [numnahlaw07_SharesLoads.l1,if_pos (by omega),hw2]) (Ev.bind (ev_rholder hN (rates_ok hN hl hx) hil) ?_)
  by_cases hh:firstI (fun q=>holdsB (netOf p u) (rt x) q i) p.length 0 < 0
  ·refine Ev.congr (fun k=>if_pos hh) (ih (i:Int) (by omega) ?_)
   rw [hd,firstI,if_pos]
   exact decide_eq_true hh
  ·refine Ev.congr (fun k=>if_neg hh) (ih w (by omega) ?_)
   have hu:unheld p u x i = false:=decide_eq_false hh
   rw [hd,firstI,hu,if_neg (by decide),hw]
theorem loads_lL0 {a b:Int} (hab:(a,b) = if allF (fun q=>decide ((netOf p u).load (rt x) q ≤ (netOf p u).cap q)) p.length 0 = true then (firstI (unheld p u x) u.length 0,(0:Int)) else (0,10)):∀ d i,i + d = p.length → Ev (fun k=>numnahlaw07_SharesLoads.l0 k p u (encL x) (encL ((List.range p.length).map fun q=>(netOf p u).load (rt x) q)) a b (i:Int)) true:=by
 intro d
 have h5:=hN.p5
 have h6:=hN.u6
 have hlen:(encL ((List.range p.length).map fun q=>(netOf p u).load (rt x) q)).length = p.length:=by rw [encL_length,List.length_map,List.length_range]
 induction d with
 | zero =>
  intro i hi
  refine Ev.step (fun k=>by rw [numnahlaw07_SharesLoads.l0,if_neg (by omega)]) (Ev.bind (ev_possible hN hl hx) ?_)
  by_cases hh:allF (fun q=>decide ((netOf p u).load (rt x) q ≤ (netOf p u).cap q)) p.length 0 = true
  ·rw [if_pos hh] at hab
   obtain ⟨rfl,rfl⟩:=Prod.mk.inj hab
   refine Ev.congr (fun k=>if_pos hh) ?_
   rw [wrap_id (by omega) (by omega)]
   exact loads_l1 hN hl hx u.length (-1) (Nat.le_refl _) (by rw [Nat.sub_self];rfl)
  ·rw [if_neg hh] at hab
   obtain ⟨rfl,rfl⟩:=Prod.mk.inj hab
   exact Ev.congr (fun k=>if_neg hh) (Ev.congr (fun k=>if_pos rfl) (Ev.congr (fun k=>if_pos rfl) (Ev.bind ev_awake (Ev.now _))))
 | succ d ih =>
  intro i hi
  have hil:i < p.length:=by omega
  have hg:rd_T23 (encL ((List.range p.length).map fun q=>(netOf p u).load (rt x) q)) (i:Int) = encQ ((netOf p u).load (rt x) i):=by
   rw [encT (by rw [List.length_map,List.length_range];exact hil),rt_get (by rw [List.length_map,List.length_range];exact hil),List.getElem_map,List.getElem_range]
  refine Ev.step (fun k=>by rw [numnahlaw07_SharesLoads.l0,if_pos (by omega),if_pos (by omega),if_pos (by omega),hg,wrap_succ (by omega)]) (Ev.bind (ev_rload hN (rates_ok hN hl hx) i) ?_)
  refine Ev.congr (fun k=>if_neg ?_) (ih (i + 1) (by omega))
  rw [show (encQ ((netOf p u).load (rt x) i)).f0 = ((netOf p u).load (rt x) i).num from rfl,show (encQ ((netOf p u).load (rt x) i)).f1 = (((netOf p u).load (rt x) i).den:Int) from rfl]
  simp
end
theorem loads_pure (p0:List Int) (u0:List S45) (w0:List S23) (hin0:∀ a ∈ w0,inS a):∃ k,numnahlaw07_SharesLoads.f k p0 u0 w0 = some true:=by
 refine Ev.rounds ?_
 unfold numnahlaw07_SharesLoads.f
 simp only [list_f,fracs_f,Option.bind_some]
 obtain ⟨p,hp⟩:∃ p,p0.take 11 = p:=⟨_,rfl⟩
 obtain ⟨w,hw⟩:∃ w,w0.take 11 = w:=⟨_,rfl⟩
 have hpl:p.length ≤ 11:=by rw [← hp,List.length_take];omega
 have hwl:w.length ≤ 11:=by rw [← hw,List.length_take];omega
 have hin:∀ a ∈ w,inS a:=fun a ha=>hin0 a (by rw [← hw] at ha;exact List.mem_of_mem_take ha)
 have hgl:=group_len u0
 refine Ev.bind (ev_group u0) ?_
 obtain ⟨u,hu⟩:∃ u,(u0.take 7).map cutU = u:=⟨_,rfl⟩
 rw [hu] at hgl
 rw [hp,hw,hu]
 have hf:H.fitL p:=by unfold H.fitL;omega
 have e0:=ev_newNet (p:=p) (u:=u) (by omega) (by omega) hf hgl.2
 have e1:=ev_users (p:=p) (u:=u) (by omega) (by omega) hgl.2
 have e2:=ev_areRates (p:=p) (u:=u) (w:=w) (by omega) hin
 have e3:=ev_rrates (u:=u) (w:=w) (by omega) hin
 have aw:Ev (fun k=>(numnahlaw07_awake.f k).bind fun t=>some t) true:=Ev.bind ev_awake (Ev.now _)
 by_cases hok:okNet p u = true
 ·rw [hok] at e0 e1
  have hN:=isN hok
  by_cases hr:w.length = u.length ∧ ∀ a ∈ w,rateS a
  ·rw [decide_eq_true hr] at e2 e3
   obtain ⟨x,rfl,hx⟩:=rate_list hr.2
   have hl:x.length = u.length:=by have:=hr.1;rwa [encL_length] at this
   have hlen:(encL ((List.range p.length).map fun q=>(netOf p u).load (rt x) q)).length = p.length:=by rw [encL_length,List.length_map,List.length_range]
   have a1:Ev (fun k=>shares_Load.f k p u (encL x)) (encL ((List.range p.length).map fun q=>(netOf p u).load (rt x) q),0):=by
    unfold shares_Load.f
    exact Ev.bind e0 (Ev.bind e2 (Ev.bind (ev_loads hN hl hx) (Ev.now _)))
   obtain ⟨⟨a,b⟩,hab⟩:∃ z:Int × Int,z = if allF (fun q=>decide ((netOf p u).load (rt x) q ≤ (netOf p u).cap q)) p.length 0 = true then (firstI (unheld p u x) u.length 0,(0:Int)) else (0,10):=⟨_,rfl⟩
   have a2:Ev (fun k=>shares_Better.f k p u (encL x)) (a,b):=by
    unfold shares_Better.f
    refine Ev.bind e0 (Ev.bind e2 (Ev.bind (ev_loads hN hl hx) ?_))
    rw [hab,hlen]
    exact better_l0 hN hl hx p.length 0 (by omega)
   refine Ev.bind a1 (Ev.bind a2 (Ev.bind e1 (Ev.bind e3 ?_)))
   refine Ev.congr (fun k=>if_pos rfl) ?_
   refine Ev.congr (fun k=>if_pos (congrArg Nat.cast hlen)) ?_
   refine Ev.step (fun k=>?_) (loads_lL0 hN hl hx hab p.length 0 (by omega))
   rw [numnahlaw07_SharesLoads.j0];rfl
  ·rw [decide_eq_false hr] at e2 e3
   have a1:Ev (fun k=>shares_Load.f k p u w) ([],10):=by
    unfold shares_Load.f
    exact Ev.bind e0 (Ev.bind e2 (Ev.now _))
   have a2:Ev (fun k=>shares_Better.f k p u w) (0,10):=by
    unfold shares_Better.f
    exact Ev.bind e0 (Ev.bind e2 (Ev.now _))
   exact Ev.bind a1 (Ev.bind a2 (Ev.bind e1 (Ev.bind e3 aw)))
 ·have hok':okNet p u = false:=by simpa using hok
  rw [hok'] at e0 e1
  have a1:Ev (fun k=>shares_Load.f k p u w) ([],2):=by
   unfold shares_Load.f
   exact Ev.bind e0 (Ev.now _)
  have a2:Ev (fun k=>shares_Better.f k p u w) (0,2):=by
   unfold shares_Better.f
   exact Ev.bind e0 (Ev.now _)
  exact Ev.bind a1 (Ev.bind a2 (Ev.bind e1 aw))
end Go.Proofs.Ytjohcjfmlhihbaa.P
