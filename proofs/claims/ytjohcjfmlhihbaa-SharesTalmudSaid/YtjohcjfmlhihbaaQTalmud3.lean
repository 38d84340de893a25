/- Several texts, joined. -/
import Derived.Test.YtjohcjfmlhihbaaQTalmud2
set_option linter.unusedVariables false
set_option linter.unusedSimpArgs false
namespace Go.Proofs.Ytjohcjfmlhihbaa.G
open Go.RowKit Go.Proofs.YtjohcjfmlhihbaaW.PrintWords Go.Proofs.YtjohcjfmlhihbaaW.PrintLast Go.Proofs.YtjohcjfmlhihbaaW.PrintMore
set_option maxHeartbeats 8000000
set_option maxRecDepth 100000
attribute [local go_sem] cond_true cond_false fld23_0 fld23_1 fld45_0 fld45_1 fld109_0 fld109_1 fld94_0 fld94_1 max2_int min2_int max_two min_two max_three min_three max_four min_four
attribute [local go_sem high] eqA23
mutual
def shares_Agrees.l0:Nat → List Int → List (S23) → Int → Int → Option (Int × Int × Bool × Int)
 | 0,_,_,_,_=>none
 | k + 1,x0,x2,z2,x9=>if x9 < z2 then (shares_Agrees.l1 k x0 x2 x9 (wrap64 (x9 + 1)) z2 x9) else (some (0,0,true,0))
def shares_Agrees.l1:Nat → List Int → List (S23) → Int → Int → Int → Int → Option (Int × Int × Bool × Int)
 | 0,_,_,_,_,_,_=>none
 | k + 1,x0,x2,t3,t4,z2,x9=>if t4 < (x0.length:Int) then (if 0 ≤ t3 then (if t3 < (x2.length:Int) then (if 0 ≤ t4 then (if t4 < (x2.length:Int) then ((shares_add.f k ((rd_T23 x2 t3).f0) ((rd_T23 x2 t3).f1) ((rd_T23 x2 t4).f0) ((rd_T23 x2 t4).f1)).bind fun t5=>(if t3 < (x0.length:Int) then ((shares_garment.f k t5.1 t5.2 (rd x0 t3) (rd x0 t4)).bind fun s0=>(if (!(s0.1 == ((rd_T23 x2 t3).f0)) || (!(s0.2.1 == ((rd_T23 x2 t3).f1)))) = true then (some (t3,t4,false,0)) else (if (!(s0.2.2.1 == ((rd_T23 x2 t4).f0)) || (!(s0.2.2.2 == ((rd_T23 x2 t4).f1)))) = true then (some (t3,t4,false,0)) else (shares_Agrees.l1 k x0 x2 t3 (wrap64 (t4 + 1)) z2 x9)))) else (none))) else (none)) else (none)) else (none)) else (none)) else (shares_Agrees.l0 k x0 x2 z2 (wrap64 (x9 + 1)))
end
def shares_Agrees.f (k:Nat) (l0:List Int) (a1:Int) (l2:List (S23)):Option (Int × Int × Bool × Int):=(newClaimsR.f k l0 a1).bind fun r9=>(if r9 = true then ((shares_claims_isAward.f k l0 a1 l2).bind fun q2=>(if q2 = true then (shares_Agrees.l0 k l0 l2 (l0.length:Int) 0) else (some (0,0,false,10)))) else (some (0,0,false,2)))
theorem shares_Agrees.mono_l:∀ k,(∀ y0 y1 y2 y3,LeO (shares_Agrees.l0 k y0 y1 y2 y3) (shares_Agrees.l0 (k + 1) y0 y1 y2 y3)) ∧ (∀ y0 y1 y2 y3 y4 y5,LeO (shares_Agrees.l1 k y0 y1 y2 y3 y4 y5) (shares_Agrees.l1 (k + 1) y0 y1 y2 y3 y4 y5))
 | 0=>⟨fun _ _ _ _ r h=>by simp [shares_Agrees.l0] at h,fun _ _ _ _ _ _ r h=>by simp [shares_Agrees.l1] at h⟩
 | k + 1=>by
  obtain ⟨z9,A1⟩:=shares_Agrees.mono_l k
  refine ⟨?_,?_⟩
  ·intro y0 y1 y2 y3
   unfold shares_Agrees.l0
   repeat' first
   | (with_reducible first | exact z9 _ _ _ _ | exact A1 _ _ _ _ _ _ | exact newClaimsR.mono _ _ _ | exact shares_add.mono _ _ _ _ _ | exact shares_claims_isAward.mono _ _ _ _ | exact shares_garment.mono _ _ _ _ _ | exact LeO.refl _ | exact LeO.none _ | refine LeO.ite ?_ ?_ | refine LeO.bind ?_ (fun _=>?_))
   | exact LeO.none _ | refine LeO.ite ?_ ?_ | refine LeO.bind ?_ (fun _=>?_)
  intro y0 y1 y2 y3 y4 y5
  unfold shares_Agrees.l1
  repeat' first
  | (with_reducible first | exact z9 _ _ _ _ | exact A1 _ _ _ _ _ _ | exact newClaimsR.mono _ _ _ | exact shares_add.mono _ _ _ _ _ | exact shares_claims_isAward.mono _ _ _ _ | exact shares_garment.mono _ _ _ _ _ | exact LeO.refl _ | exact LeO.none _ | refine LeO.ite ?_ ?_ | refine LeO.bind ?_ (fun _=>?_))
  | exact LeO.none _ | refine LeO.ite ?_ ?_ | refine LeO.bind ?_ (fun _=>?_)
theorem shares_Agrees.mono:∀ a0 a1 a2 k,LeO (shares_Agrees.f k a0 a1 a2) (shares_Agrees.f (k + 1) a0 a1 a2):=by
 intro a0 a1 a2 k
 obtain ⟨z9,A1⟩:=shares_Agrees.mono_l k
 unfold shares_Agrees.f
 repeat' first
   | (with_reducible first | exact z9 _ _ _ _ | exact A1 _ _ _ _ _ _ | exact newClaimsR.mono _ _ _ | exact shares_add.mono _ _ _ _ _ | exact shares_claims_isAward.mono _ _ _ _ | exact shares_garment.mono _ _ _ _ _ | exact LeO.refl _ | exact LeO.none _ | refine LeO.ite ?_ ?_ | refine LeO.bind ?_ (fun _=>?_))
   | exact LeO.none _ | refine LeO.ite ?_ ?_ | refine LeO.bind ?_ (fun _=>?_)
def shares_Agrees.T12:Bool × List (List Nat × List Nat):=(true,[([],[]),([],[]),([0,1],[0,1]),([2],[2]),([],[]),([],[]),([4,5],[4,5]),([6],[6]),([3,7],[3,7]),([],[]),([],[]),([9,10],[9,10]),([11],[11]),([],[]),([],[]),([13,14],[13,14]),([15],[15]),([8,12,16,8],[8,12,16]),([17],[17]),([18],[18]),([18],[18]),([],[]),([],[]),([21,19,17,0,1,2,3,4,5,6,7,8,9,10,11,12,13,14,15,16,17,18,19,21,22],[19,21]),([22,20,23,0,1,2,3,4,5,6,7,8,9,10,11,12,13,14,15,16,17,18,19,20,21,22,23],[20,22])])
def shares_Agrees.B12:List Nat:=[0,0,3,7,0,0,48,112,255,0,0,1536,3584,0,0,24576,57344,131071,262143,524287,524287,0,0,7340031,16777215]
theorem shares_Agrees.tab12:rtab .any (opsOf Try.f54 12) = shares_Agrees.T12:=by kernel_rfl
theorem shares_Agrees.bits12:waitsOk shares_Agrees.T12.2 shares_Agrees.B12 = true:=by kernel_rfl
def shares_Agrees.T13:Bool × List (List Nat × List Nat):=(true,[([],[]),([],[]),([],[]),([1,2],[1,2]),([3],[3]),([0,4],[0,4]),([5],[5]),([6],[6]),([6],[6]),([6],[6]),([8,9,6],[6,8,9]),([10,6],[6,10]),([7,11,6],[6,7,11]),([6,12],[6,12])])
def shares_Agrees.B13:List Nat:=[0,0,0,6,14,31,63,127,127,127,895,1919,4095,8191]
theorem shares_Agrees.tab13:rtab .any (opsOf Try.f54 13) = shares_Agrees.T13:=by kernel_rfl
theorem shares_Agrees.bits13:waitsOk shares_Agrees.T13.2 shares_Agrees.B13 = true:=by kernel_rfl
theorem shares_Agrees.calls (k:Nat) (A0:Option Addr) (c0:Nat) (l0:List Int) (a1:Int) (A2:Option Addr) (c2:Nat) (l2:List (S23)) (r1:Int) (r2:Int) (r3:Bool) (r4:Int) (w:World) (M2:Kd.C (Kd.int .i64) w A0 l0.length l0) (M3:l0.length ≤ c0) (M4:Kd.C k23 w A2 l2.length l2) (M5:l2.length ≤ c2) (h:shares_Agrees.f k l0 a1 l2 = some (r1,r2,r3,r4)) :
  Calls Try.prog 54 #[.slice A0 l0.length c0,.int .i64 a1,.slice A2 l2.length c2] w fun e w'=>e = .returned (.tuple #[.agg #[.int .i64 r1,.int .i64 r2],.bool r3,.int .i64 r4]) ∧ Below w.heap.size w w':=by
 have R9:=Try.underlying51
 have S0:=Try.underlying94
 have S1:=Try.underlying23
 have t6:=A_ M2
 have z3:=A_ M3
 clear M2 M3
 have t0:=A_ M4
 have M6:=A_ M5
 clear M4 M5
 have HB:=A_ (Below.refl w.heap.size w)
 have H:((newClaimsR.f k l0 a1).bind fun r9=>(if r9 = true then ((shares_claims_isAward.f k l0 a1 l2).bind fun q2=>(if q2 = true then (shares_Agrees.l0 k l0 l2 (l0.length:Int) 0) else (some (0,0,false,10)))) else (some (0,0,false,2)))) = some (r1,r2,r3,r4):=h
 clear h
 replace H:=Option.bind_eq_some_iff.mp H
 obtain ⟨r9,M7,H⟩:=H
 replace H:(if r9 = true then ((shares_claims_isAward.f k l0 a1 l2).bind fun q2=>(if q2 = true then (shares_Agrees.l0 k l0 l2 (l0.length:Int) 0) else (some (0,0,false,10)))) else (some (0,0,false,2))) = some (r1,r2,r3,r4):=H
 have A4:=A_ M7
 clear M7
 by_cases c5:r9 = true
 case neg =>
  replace c5:=Bool.eq_false_iff.mpr c5
  subst c5
  rw [if_neg (show ¬ (false = true) by decide)] at H
  simp only [Option.some.injEq,Prod.mk.injEq] at H
  obtain ⟨rfl,rfl,rfl,rfl⟩:=H
  go_enter Try.func54,Try.ntmps54
  go_wp2_with (first | ((with_reducible refine gate_dst (N:=6) rfl ?_);refine bx 6 #[.int .i64 0,.int .i64 0] 51 ?_;intro b7 hg U8 hbox hb;have b3:=A_ hbox;have q6:=gw hg HB;have t7:=q6;replace HB:=bB HB hb;clear hb hbox hg) | ((with_reducible refine gate_callee (f:=62) rfl ?_);refine gL (some 18) Try.func62 #[.slice A0 l0.length c0,.int .i64 a1] ?_;(with_reducible refine (newClaimsR.calls k _ _ l0 a1 false _ ?side1 ?side2 A4.out).mono ?_);(case side1=>exact cB t6 HB);(case side2=>exact z3.out);rintro e U9 ⟨rfl,hb⟩;refine ⟨_,rfl,?_⟩;replace b3:=kB b3 hb;replace HB:=bB HB hb;(try clear hb)) | ((with_reducible refine gate_dst (N:=9) rfl ?_);refine bx 9 #[.slice none 0 0,.int .i64 0] 94 ?_;intro t8 hg A3 hbox hb;have s1:=A_ hbox;have y6:=gw hg HB;have M1:=y6;have o4:=nl hg b3;have s2:=ng hg b3;replace b3:=kB b3 hb;replace HB:=bB HB hb;clear hb hbox hg;have M8:=s2.out;have M9:=o4.out;have A5:A3.cell? ⟨t8,0,none⟩ = some (.slice none 0 0):=cz s1 0;have A7:A3.cell? ⟨t8,1,none⟩ = some (.int .i64 0):=cz s1 1;have A8:=blk_frozen s1.out 0;have A9:=blk_frozen s1.out 1;have B0:A3.cell? ⟨b7,0,none⟩ = some (.int .i64 0):=cz b3 0;have C0:A3.cell? ⟨b7,1,none⟩ = some (.int .i64 0):=cz b3 1;have C1:=blk_frozen b3.out 0;have C2:=blk_frozen b3.out 1))
  refine bodyPost_ret (results_ctt rfl _ _ b7 51 #[.int .i64 0,.int .i64 0] (0,0) _ rfl (by (with_reducible repeat (first | refine blk_drewN ?_ _ | refine blk_drew ?_ | refine blk_alloc ?_ _));refine blk_put (cs:=#[.int .i64 0,.int .i64 0]) ?_ 1 _ rfl;(with_reducible repeat (first | refine blk_drewN ?_ _ | refine blk_drew ?_ | refine blk_alloc ?_ _));refine blk_put (cs:=#[.int .i64 0,.int .i64 0]) ?_ 0 _ rfl;(with_reducible repeat (first | refine blk_drewN ?_ _ | refine blk_drew ?_ | refine blk_alloc ?_ _));refine blk_far ?_ o4.out _;(with_reducible repeat (first | refine blk_drewN ?_ _ | refine blk_drew ?_ | refine blk_alloc ?_ _));refine blk_far ?_ o4.out _;(with_reducible repeat (first | refine blk_drewN ?_ _ | refine blk_drew ?_ | refine blk_alloc ?_ _));exact b3.out) Try.underlying51 rfl (by kernel_rfl)) rfl ?_
  exact ⟨by first | rfl | (simp [errW_none,errW_some] <;> rfl) | (simp [*,errW_none,errW_some] <;> rfl),bl HB⟩
 subst c5
 rw [if_pos rfl] at H
 replace H:=Option.bind_eq_some_iff.mp H
 obtain ⟨q2,N0,H⟩:=H
 replace H:(if q2 = true then (shares_Agrees.l0 k l0 l2 (l0.length:Int) 0) else (some (0,0,false,10))) = some (r1,r2,r3,r4):=H
 have A6:=A_ N0
 clear N0
 by_cases c7:q2 = true
 case neg =>
  replace c7:=Bool.eq_false_iff.mpr c7
  subst c7
  rw [if_neg (show ¬ (false = true) by decide)] at H
  simp only [Option.some.injEq,Prod.mk.injEq] at H
  obtain ⟨rfl,rfl,rfl,rfl⟩:=H
  go_enter Try.func54,Try.ntmps54
  go_wp2_with (first | ((with_reducible refine gate_dst (N:=6) rfl ?_);refine bx 6 #[.int .i64 0,.int .i64 0] 51 ?_;intro b7 hg V0 hbox hb;have b3:=A_ hbox;have q6:=gw hg HB;have t7:=q6;replace HB:=bB HB hb;clear hb hbox hg) | ((with_reducible refine gate_callee (f:=62) rfl ?_);refine gL (some 18) Try.func62 #[.slice A0 l0.length c0,.int .i64 a1] ?_;(with_reducible refine (newClaimsR.calls k _ _ l0 a1 true _ ?side1 ?side2 A4.out).mono ?_);(case side1=>exact cB t6 HB);(case side2=>exact z3.out);rintro e V1 ⟨rfl,hb⟩;refine ⟨_,rfl,?_⟩;replace b3:=kB b3 hb;replace HB:=bB HB hb;(try clear hb)) | ((with_reducible refine gate_dst (N:=9) rfl ?_);refine bx 9 #[.slice none 0 0,.int .i64 0] 94 ?_;intro b8 hg N1 hbox hb;have b4:=A_ hbox;have s8:=gw hg HB;have y7:=s8;have i0:=nl hg b3;have m1:=ng hg b3;replace b3:=kB b3 hb;replace HB:=bB HB hb;clear hb hbox hg;have N2:=m1.out;have N3:=i0.out;have C3:N1.cell? ⟨b8,0,none⟩ = some (.slice none 0 0):=cz b4 0;have C4:N1.cell? ⟨b8,1,none⟩ = some (.int .i64 0):=cz b4 1;have C5:=blk_frozen b4.out 0;have C6:=blk_frozen b4.out 1) | ((with_reducible refine gate_callee (f:=87) rfl ?_);refine gL (some 26) Try.func87 #[.agg #[.slice A0 l0.length c0,.int .i64 a1],.slice A2 l2.length c2] ?_;(with_reducible refine (shares_claims_isAward.calls k _ _ l0 a1 _ _ l2 false _ ?side1 ?side2 ?side3 ?side4 A6.out).mono ?_);(case side1=>exact Kd.C_below t6.out (bl HB));(case side2=>exact z3.out);(case side3=>exact Kd.C_below t0.out (bl HB));(case side4=>exact M6.out);rintro e N4 ⟨rfl,hb⟩;refine ⟨_,rfl,?_⟩;replace b3:=A_ (blk_below (g:=b7) (o:=.cells #[.int .i64 0,.int .i64 0] 51 (0,0)) (bf2_ i0 i0 b3) hb);replace b4:=A_ (blk_below (g:=b8) (o:=.cells #[.slice A0 l0.length c0,.int .i64 a1] 94 (0,0)) (by (with_reducible repeat (first | refine blk_drewN ?_ _ | refine blk_drew ?_ | refine blk_alloc ?_ _));refine blk_put (cs:=#[.slice A0 l0.length c0,.int .i64 0]) ?_ 1 _ rfl;(with_reducible repeat (first | refine blk_drewN ?_ _ | refine blk_drew ?_ | refine blk_alloc ?_ _));refine blk_put (cs:=#[.slice none 0 0,.int .i64 0]) ?_ 0 _ rfl;(with_reducible repeat (first | refine blk_drewN ?_ _ | refine blk_drew ?_ | refine blk_alloc ?_ _));exact b4.out) hb);replace HB:=bB HB hb;(try clear hb);have C7:N4.cell? ⟨b7,0,none⟩ = some (.int .i64 0):=cz b3 0;have C8:N4.cell? ⟨b7,1,none⟩ = some (.int .i64 0):=cz b3 1;have C9:=blk_frozen b3.out 0;have D0:=blk_frozen b3.out 1))
  refine bodyPost_ret (results_ctt rfl _ _ b7 51 #[.int .i64 0,.int .i64 0] (0,0) _ rfl (by (with_reducible repeat (first | refine blk_drewN ?_ _ | refine blk_drew ?_ | refine blk_alloc ?_ _));refine blk_put (cs:=#[.int .i64 0,.int .i64 0]) ?_ 1 _ rfl;(with_reducible repeat (first | refine blk_drewN ?_ _ | refine blk_drew ?_ | refine blk_alloc ?_ _));refine blk_put (cs:=#[.int .i64 0,.int .i64 0]) ?_ 0 _ rfl;(with_reducible repeat (first | refine blk_drewN ?_ _ | refine blk_drew ?_ | refine blk_alloc ?_ _));exact b3.out) Try.underlying51 rfl (by kernel_rfl)) rfl ?_
  exact ⟨by first | rfl | (simp [errW_none,errW_some] <;> rfl) | (simp [*,errW_none,errW_some] <;> rfl),bl HB⟩
 subst c7
 rw [if_pos rfl] at H
 have H':=A_ H
 clear H
 go_enter Try.func54,Try.ntmps54
 go_wp2_with (first | ((with_reducible refine gate_dst (N:=6) rfl ?_);refine bx 6 #[.int .i64 0,.int .i64 0] 51 ?_;intro b7 hg w8 hbox hb;have b3:=A_ hbox;have q6:=gw hg HB;have t7:=q6;replace HB:=bB HB hb;clear hb hbox hg) | ((with_reducible refine gate_callee (f:=62) rfl ?_);refine gL (some 18) Try.func62 #[.slice A0 l0.length c0,.int .i64 a1] ?_;(with_reducible refine (newClaimsR.calls k _ _ l0 a1 true _ ?side1 ?side2 A4.out).mono ?_);(case side1=>exact cB t6 HB);(case side2=>exact z3.out);rintro e w9 ⟨rfl,hb⟩;refine ⟨_,rfl,?_⟩;replace b3:=kB b3 hb;replace HB:=bB HB hb;(try clear hb)) | ((with_reducible refine gate_dst (N:=9) rfl ?_);refine bx 9 #[.slice none 0 0,.int .i64 0] 94 ?_;intro b8 hg N5 hbox hb;have b4:=A_ hbox;have s8:=gw hg HB;have y7:=s8;have i0:=nl hg b3;have m1:=ng hg b3;replace b3:=kB b3 hb;replace HB:=bB HB hb;clear hb hbox hg;have N6:=m1.out;have N7:=i0.out;have D1:N5.cell? ⟨b8,0,none⟩ = some (.slice none 0 0):=cz b4 0;have D2:N5.cell? ⟨b8,1,none⟩ = some (.int .i64 0):=cz b4 1;have D3:=blk_frozen b4.out 0;have D4:=blk_frozen b4.out 1) | ((with_reducible refine gate_callee (f:=87) rfl ?_);refine gL (some 26) Try.func87 #[.agg #[.slice A0 l0.length c0,.int .i64 a1],.slice A2 l2.length c2] ?_;(with_reducible refine (shares_claims_isAward.calls k _ _ l0 a1 _ _ l2 true _ ?side1 ?side2 ?side3 ?side4 A6.out).mono ?_);(case side1=>exact Kd.C_below t6.out (bl HB));(case side2=>exact z3.out);(case side3=>exact Kd.C_below t0.out (bl HB));(case side4=>exact M6.out);rintro e V2 ⟨rfl,hb⟩;refine ⟨_,rfl,?_⟩;replace b3:=A_ (blk_below (g:=b7) (o:=.cells #[.int .i64 0,.int .i64 0] 51 (0,0)) (bf2_ i0 i0 b3) hb);replace b4:=A_ (blk_below (g:=b8) (o:=.cells #[.slice A0 l0.length c0,.int .i64 a1] 94 (0,0)) (by (with_reducible repeat (first | refine blk_drewN ?_ _ | refine blk_drew ?_ | refine blk_alloc ?_ _));refine blk_put (cs:=#[.slice A0 l0.length c0,.int .i64 0]) ?_ 1 _ rfl;(with_reducible repeat (first | refine blk_drewN ?_ _ | refine blk_drew ?_ | refine blk_alloc ?_ _));refine blk_put (cs:=#[.slice none 0 0,.int .i64 0]) ?_ 0 _ rfl;(with_reducible repeat (first | refine blk_drewN ?_ _ | refine blk_drew ?_ | refine blk_alloc ?_ _));exact b4.out) hb);replace HB:=bB HB hb;(try clear hb)))
 go_loopg [31] k (fun kq S2 w'=>∃ (b0:Int) (n9:Int) (m6:Int),S2 = .int .i64 b0 ∧ Aside0 (shares_Agrees.l0 kq l0 l2 (l0.length:Int) b0 = some (r1,r2,r3,r4)) ∧ Aside0 (kq ≤ k) ∧ Aside0 (w'.heap[b7]? = some (.cells #[.int .i64 n9,.int .i64 m6] 51 (0,0))) ∧ Aside0 (w'.heap[b8]? = some (.cells #[(.slice A0 l0.length c0),.int .i64 a1] 94 (0,0))) ∧ Aside0 (Below w.heap.size w w'))
 case atStart=>exact ⟨(0),(0),(0),rf_,H',⟨Nat.le_refl _⟩,⟨dr_ b3⟩,⟨dr_ b4⟩,⟨bl HB⟩⟩
 case round =>
  clear H'
  obtain ⟨b0,n9,m6,rfl,HA,D5,b3,b4,HB⟩:=hrel
  cases gk with
  | zero=>exact absurd HA.out (by simp [shares_Agrees.l0])
  | succ k1 =>
   have H:=HA.out
   clear HA
   simp only [shares_Agrees.l0] at H
   by_cases y8:b0 < (l0.length:Int)
   case neg =>
    rw [if_neg y8] at H
    have z4:=decide_eq_false y8
    clear y8
    simp only [Option.some.injEq,Prod.mk.injEq] at H
    obtain ⟨rfl,rfl,rfl,rfl⟩:=H
    have N8:=i0.out
    have N9:=m1.out
    have D6:wr.cell? ⟨b7,0,none⟩ = some (.int .i64 n9):=cz b3 0
    have D7:wr.cell? ⟨b7,1,none⟩ = some (.int .i64 m6):=cz b3 1
    have D8:=blk_frozen b3.out 0
    have D9:=blk_frozen b3.out 1
    go_wp2
    refine bodyPost_ret (results_ctt rfl _ _ b7 51 #[.int .i64 0,.int .i64 0] (0,0) _ rfl (by (with_reducible repeat (first | refine blk_drewN ?_ _ | refine blk_drew ?_ | refine blk_alloc ?_ _));refine blk_put (cs:=#[.int .i64 0,.int .i64 m6]) ?_ 1 _ rfl;(with_reducible repeat (first | refine blk_drewN ?_ _ | refine blk_drew ?_ | refine blk_alloc ?_ _));refine blk_put (cs:=#[.int .i64 n9,.int .i64 m6]) ?_ 0 _ rfl;(with_reducible repeat (first | refine blk_drewN ?_ _ | refine blk_drew ?_ | refine blk_alloc ?_ _));exact b3.out) Try.underlying51 rfl (by kernel_rfl)) rfl ?_
    exact ⟨by first | rfl | (simp [errW_none,errW_some] <;> rfl) | (simp [*,errW_none,errW_some] <;> rfl),bl HB⟩
   rw [if_pos y8] at H
   have z4:=decide_eq_true y8
   clear y8
   have H':=A_ H
   clear H
   go_wp2
   go_loopg [12] k1 (fun kq S3 w'=>∃ (b1:Int) (e0:Int) (d9:Int),S3 = .int .i64 b1 ∧ Aside0 (shares_Agrees.l1 kq l0 l2 b0 b1 (l0.length:Int) b0 = some (r1,r2,r3,r4)) ∧ Aside0 (kq ≤ k1) ∧ Aside0 (w'.heap[b7]? = some (.cells #[.int .i64 e0,.int .i64 d9] 51 (0,0))) ∧ Aside0 (w'.heap[b8]? = some (.cells #[(.slice A0 l0.length c0),.int .i64 a1] 94 (0,0))) ∧ Aside0 (Below w.heap.size w w'))
   case atStart=>exact ⟨(wrap64 (b0 + 1)),(n9),(m6),rf_,H',⟨Nat.le_refl _⟩,⟨dr_ b3⟩,⟨dr_ b4⟩,⟨bl HB⟩⟩
   case round =>
    clear H'
    obtain ⟨b1,e0,d9,rfl,HA,E0,b3,b4,HB⟩:=hrel
    cases gk with
    | zero=>exact absurd HA.out (by simp [shares_Agrees.l1])
    | succ k2 =>
     have H:=HA.out
     clear HA
     simp only [shares_Agrees.l1] at H
     by_cases y9:b1 < (l0.length:Int)
     case neg =>
      rw [if_neg y9] at H
      have z5:=decide_eq_false y9
      clear y9
      have H':=A_ H
      clear H
      go_wp2
      go_roundg k2
      case measure=>have:=D5.out;have:=E0.out;omega
      case rel=>exact ⟨(wrap64 (b0 + 1)),(e0),(d9),rf_,H',⟨by have:=D5.out;have:=E0.out;omega⟩,⟨dr_ b3⟩,⟨dr_ b4⟩,⟨bl HB⟩⟩
     rw [if_pos y9] at H
     have z5:=decide_eq_true y9
     clear y9
     replace H:=gd H
     obtain ⟨O0,H⟩:=H
     have O1:=decide_eq_true O0
     clear O0
     replace H:=gd H
     obtain ⟨O2,H⟩:=H
     have O3:=decide_eq_true O2
     clear O2
     replace H:=gd H
     obtain ⟨O4,H⟩:=H
     have O5:=decide_eq_true O4
     clear O4
     replace H:=gd H
     obtain ⟨O6,H⟩:=H
     have O7:=decide_eq_true O6
     clear O6
     replace H:=Option.bind_eq_some_iff.mp H
     obtain ⟨⟨h7,h8⟩,A200,H⟩:=H
     dsimp only at H
     have t1:=A_ A200
     clear A200
     replace H:=gd H
     obtain ⟨O8,H⟩:=H
     have O9:=decide_eq_true O8
     clear O8
     replace H:=Option.bind_eq_some_iff.mp H
     obtain ⟨⟨h3,h5,h4,h6⟩,A220,H⟩:=H
     dsimp only at H
     have t2:=A_ A220
     clear A220
     by_cases z0:(!(h3 == ((rd_T23 l2 b0).f0)) || (!(h5 == ((rd_T23 l2 b0).f1)))) = true
     ·rw [if_pos z0] at H
      have z6:(!(h3 == ((rd_T23 l2 b0).f0)) || (!(h5 == ((rd_T23 l2 b0).f1)))) = true:=z0
      clear z0
      simp only [Option.some.injEq,Prod.mk.injEq] at H
      obtain ⟨rfl,rfl,rfl,rfl⟩:=H
      try go_wp2
      replace b3:=kD b3
      replace b4:=kD b4
      replace HB:=bD HB
      have o5:0 ≤ (b0:Int):=oa_
      have o6:b0 < (l2.length:Int):=oa_
      obtain ⟨b2,s3,i4,i5⟩:=at_T23 t0.out b0 o5 o6
      have e5:=i5
      have e6:=i4
      cases s3
      replace i4:=cT HB i4
      replace i5:=cT HB i5
      replace o5:=eq_true o5
      replace o6:=eq_true o6
      have o7:0 ≤ (b1:Int):=oa_
      have o8:b1 < (l2.length:Int):=oa_
      obtain ⟨q7,s4,i6,i7⟩:=at_T23 t0.out b1 o7 o8
      have e7:=i7
      have e8:=i6
      obtain rfl:b2 = q7:=(by injection s4)
      replace i6:=cT HB i6
      replace i7:=cT HB i7
      replace o7:=eq_true o7
      replace o8:=eq_true o8
      have o9:0 ≤ (b0:Int):=oa_
      have p0:b0 < (l0.length:Int):=oa_
      obtain ⟨b9,s5,i8⟩:=Kd.at_int t6.out b0 o9 p0
      have e9:=i8
      cases s5
      replace i8:=cT HB i8
      replace o9:=eq_true o9
      replace p0:=eq_true p0
      have p1:0 ≤ (b1:Int):=oa_
      have p2:b1 < (l0.length:Int):=oa_
      obtain ⟨q8,s6,i9⟩:=Kd.at_int t6.out b1 p1 p2
      have h0:=i9
      obtain rfl:b9 = q8:=(by injection s6)
      replace i9:=cT HB i9
      replace p1:=eq_true p1
      replace p2:=eq_true p2
      refine start_ (n:=25) (S:=fun w'=>w'.cell? (b2.add ((b0).toNat * 2)) = some (.int .i64 ((rd_T23 l2 b0).f0)) ∧ w'.cell? ⟨(b2.add ((b0).toNat * 2)).block,(b2.add ((b0).toNat * 2)).off + 1,none⟩ = some (.int .i64 ((rd_T23 l2 b0).f1)) ∧ w'.cell? (b2.add ((b1).toNat * 2)) = some (.int .i64 ((rd_T23 l2 b1).f0)) ∧ w'.cell? ⟨(b2.add ((b1).toNat * 2)).block,(b2.add ((b1).toNat * 2)).off + 1,none⟩ = some (.int .i64 ((rd_T23 l2 b1).f1)) ∧ w'.cell? (b9.add (b0).toNat) = some (.int .i64 (rd l0 b0)) ∧ w'.cell? (b9.add (b1).toNat) = some (.int .i64 (rd l0 b1))) (ds:=[]) (ba 25 0) (by kernel_rfl) rfl rfl ⟨(cT HB e6),(cT HB e5),(cT HB e8),(cT HB e7),(cT HB e9),(cT HB h0)⟩ (fun hHeld=>?_);refine with_tabW shares_Agrees.tab12 shares_Agrees.bits12 (fun HT_ HW_=>?_)
      generalize wr.drew = V3 at b3 b4 HB i4 i5 i6 i7 i8 i9 hHeld ⊢
      refine pq 0 43 1 HT_ ?_
      refine pq 1 44 3 HT_ ?_
      refine pq 2 45 7 HT_ ?_
      refine pq 4 47 23 HT_ ?_
      refine pq 5 48 55 HT_ ?_
      refine pq 6 49 119 HT_ ?_
      refine pq 9 52 631 HT_ ?_
      refine pq 10 53 1655 HT_ ?_
      refine pq 11 54 3703 HT_ ?_
      refine pq 13 56 11895 HT_ ?_
      refine pq 14 57 28279 HT_ ?_
      refine pq 15 58 61047 HT_ ?_
      refine tq 3 46 61055 HT_ HW_ hHeld ?_
      refine tq 7 50 61183 HT_ HW_ hHeld ?_
      refine tq 12 55 65279 HT_ HW_ hHeld ?_
      refine tq 16 59 130815 HT_ HW_ hHeld ?_
      refine join_ (σ:=Nat × Nat) 2 (ba 25 8388607) (fun s_=>[(51,.agg #[.int .i64 h7,.int .i64 h8]),(60,.tuple #[.agg #[.int .i64 h3,.int .i64 h5],.agg #[.int .i64 h4,.int .i64 h6]]),(13,.pointer (some ⟨s_.1,0,none⟩)),(14,.pointer (some ⟨s_.2,0,none⟩)),(42,.tuple #[.agg #[.int .i64 h3,.int .i64 h5],.agg #[.int .i64 h4,.int .i64 h6]]),(61,.agg #[.int .i64 h3,.int .i64 h5]),(62,.agg #[.int .i64 h4,.int .i64 h6])]) (fun s_ w'=>(w'.cell? (b2.add ((b0).toNat * 2)) = some (.int .i64 ((rd_T23 l2 b0).f0)) ∧ w'.cell? ⟨(b2.add ((b0).toNat * 2)).block,(b2.add ((b0).toNat * 2)).off + 1,none⟩ = some (.int .i64 ((rd_T23 l2 b0).f1)) ∧ w'.cell? (b2.add ((b1).toNat * 2)) = some (.int .i64 ((rd_T23 l2 b1).f0)) ∧ w'.cell? ⟨(b2.add ((b1).toNat * 2)).block,(b2.add ((b1).toNat * 2)).off + 1,none⟩ = some (.int .i64 ((rd_T23 l2 b1).f1)) ∧ w'.cell? (b9.add (b0).toNat) = some (.int .i64 (rd l0 b0)) ∧ w'.cell? (b9.add (b1).toNat) = some (.int .i64 (rd l0 b1))) ∧ (w'.heap[b7]? = some (.cells #[.int .i64 e0,.int .i64 d9] 51 (0,0))) ∧ (w'.heap[b8]? = some (.cells #[.slice (some b9) l0.length c0,.int .i64 a1] 94 (0,0))) ∧ (w'.heap[s_.1]? = some (.cells #[.int .i64 0,.int .i64 0] 23 (0,0))) ∧ (w'.heap[s_.2]? = some (.cells #[.int .i64 0,.int .i64 0] 23 (0,0))) ∧ (w.heap.size ≤ s_.1) ∧ (w.heap.size ≤ s_.1) ∧ (b7 ≠ s_.1) ∧ (s_.1 ≠ b7) ∧ (b8 ≠ s_.1) ∧ (s_.1 ≠ b8) ∧ (s_.2 ≠ s_.1) ∧ (s_.1 ≠ s_.2) ∧ (w.heap.size ≤ s_.2) ∧ (w.heap.size ≤ s_.2) ∧ (b7 ≠ s_.2) ∧ (s_.2 ≠ b7) ∧ (b8 ≠ s_.2) ∧ (s_.2 ≠ b8) ∧ (Below w.heap.size w w')) ?_ ?_
      rotate_left
      ·intro h9
       refine join_ (σ:=Nat) 3 (ba 25 4194303) (fun s_=>[(51,.agg #[.int .i64 h7,.int .i64 h8]),(60,.tuple #[.agg #[.int .i64 h3,.int .i64 h5],.agg #[.int .i64 h4,.int .i64 h6]]),(13,.pointer (some ⟨s_,0,none⟩)),(42,.tuple #[.agg #[.int .i64 h3,.int .i64 h5],.agg #[.int .i64 h4,.int .i64 h6]]),(61,.agg #[.int .i64 h3,.int .i64 h5]),(62,.agg #[.int .i64 h4,.int .i64 h6])]) (fun s_ w'=>(w'.cell? (b2.add ((b0).toNat * 2)) = some (.int .i64 ((rd_T23 l2 b0).f0)) ∧ w'.cell? ⟨(b2.add ((b0).toNat * 2)).block,(b2.add ((b0).toNat * 2)).off + 1,none⟩ = some (.int .i64 ((rd_T23 l2 b0).f1)) ∧ w'.cell? (b2.add ((b1).toNat * 2)) = some (.int .i64 ((rd_T23 l2 b1).f0)) ∧ w'.cell? ⟨(b2.add ((b1).toNat * 2)).block,(b2.add ((b1).toNat * 2)).off + 1,none⟩ = some (.int .i64 ((rd_T23 l2 b1).f1)) ∧ w'.cell? (b9.add (b0).toNat) = some (.int .i64 (rd l0 b0)) ∧ w'.cell? (b9.add (b1).toNat) = some (.int .i64 (rd l0 b1))) ∧ (w'.heap[b7]? = some (.cells #[.int .i64 e0,.int .i64 d9] 51 (0,0))) ∧ (w'.heap[b8]? = some (.cells #[.slice (some b9) l0.length c0,.int .i64 a1] 94 (0,0))) ∧ (w'.heap[s_]? = some (.cells #[.int .i64 0,.int .i64 0] 23 (0,0))) ∧ (w.heap.size ≤ s_) ∧ (w.heap.size ≤ s_) ∧ (b7 ≠ s_) ∧ (s_ ≠ b7) ∧ (b8 ≠ s_) ∧ (s_ ≠ b8) ∧ (Below w.heap.size w w')) ?_ ?_
       rotate_left
       ·intro m2
        refine join_ (σ:=Nat) 3 (ba 25 6291455) (fun s_=>[(51,.agg #[.int .i64 h7,.int .i64 h8]),(60,.tuple #[.agg #[.int .i64 h3,.int .i64 h5],.agg #[.int .i64 h4,.int .i64 h6]]),(14,.pointer (some ⟨s_,0,none⟩)),(42,.tuple #[.agg #[.int .i64 h3,.int .i64 h5],.agg #[.int .i64 h4,.int .i64 h6]]),(61,.agg #[.int .i64 h3,.int .i64 h5]),(62,.agg #[.int .i64 h4,.int .i64 h6])]) (fun s_ w'=>(w'.cell? (b2.add ((b0).toNat * 2)) = some (.int .i64 ((rd_T23 l2 b0).f0)) ∧ w'.cell? ⟨(b2.add ((b0).toNat * 2)).block,(b2.add ((b0).toNat * 2)).off + 1,none⟩ = some (.int .i64 ((rd_T23 l2 b0).f1)) ∧ w'.cell? (b2.add ((b1).toNat * 2)) = some (.int .i64 ((rd_T23 l2 b1).f0)) ∧ w'.cell? ⟨(b2.add ((b1).toNat * 2)).block,(b2.add ((b1).toNat * 2)).off + 1,none⟩ = some (.int .i64 ((rd_T23 l2 b1).f1)) ∧ w'.cell? (b9.add (b0).toNat) = some (.int .i64 (rd l0 b0)) ∧ w'.cell? (b9.add (b1).toNat) = some (.int .i64 (rd l0 b1))) ∧ (w'.heap[b7]? = some (.cells #[.int .i64 e0,.int .i64 d9] 51 (0,0))) ∧ (w'.heap[b8]? = some (.cells #[.slice (some b9) l0.length c0,.int .i64 a1] 94 (0,0))) ∧ (w'.heap[s_]? = some (.cells #[.int .i64 0,.int .i64 0] 23 (0,0))) ∧ (w.heap.size ≤ s_) ∧ (w.heap.size ≤ s_) ∧ (b7 ≠ s_) ∧ (s_ ≠ b7) ∧ (b8 ≠ s_) ∧ (s_ ≠ b8) ∧ (Below w.heap.size w w')) ?_ ?_
        rotate_left
        ·intro m3
         refine join_ (σ:=Nat × Nat) 6 (ba 25 6422527) (fun s_=>[(51,.agg #[.int .i64 h7,.int .i64 h8]),(13,.pointer (some ⟨s_.1,0,none⟩)),(14,.pointer (some ⟨s_.2,0,none⟩))]) (fun s_ w'=>(w'.cell? (b2.add ((b0).toNat * 2)) = some (.int .i64 ((rd_T23 l2 b0).f0)) ∧ w'.cell? ⟨(b2.add ((b0).toNat * 2)).block,(b2.add ((b0).toNat * 2)).off + 1,none⟩ = some (.int .i64 ((rd_T23 l2 b0).f1)) ∧ w'.cell? (b2.add ((b1).toNat * 2)) = some (.int .i64 ((rd_T23 l2 b1).f0)) ∧ w'.cell? ⟨(b2.add ((b1).toNat * 2)).block,(b2.add ((b1).toNat * 2)).off + 1,none⟩ = some (.int .i64 ((rd_T23 l2 b1).f1)) ∧ w'.cell? (b9.add (b0).toNat) = some (.int .i64 (rd l0 b0)) ∧ w'.cell? (b9.add (b1).toNat) = some (.int .i64 (rd l0 b1))) ∧ (w'.heap[b7]? = some (.cells #[.int .i64 e0,.int .i64 d9] 51 (0,0))) ∧ (w'.heap[b8]? = some (.cells #[.slice (some b9) l0.length c0,.int .i64 a1] 94 (0,0))) ∧ (w'.heap[s_.1]? = some (.cells #[.int .i64 0,.int .i64 0] 23 (0,0))) ∧ (w'.heap[s_.2]? = some (.cells #[.int .i64 0,.int .i64 0] 23 (0,0))) ∧ (w.heap.size ≤ s_.1) ∧ (w.heap.size ≤ s_.1) ∧ (b7 ≠ s_.1) ∧ (s_.1 ≠ b7) ∧ (b8 ≠ s_.1) ∧ (s_.1 ≠ b8) ∧ (s_.2 ≠ s_.1) ∧ (s_.1 ≠ s_.2) ∧ (w.heap.size ≤ s_.2) ∧ (w.heap.size ≤ s_.2) ∧ (b7 ≠ s_.2) ∧ (s_.2 ≠ b7) ∧ (b8 ≠ s_.2) ∧ (s_.2 ≠ b8) ∧ (Below w.heap.size w w')) ?_ ?_
         rotate_left
         ·intro j8
          refine join_ (σ:=Unit) 4 (ba 25 2097151) (fun s_=>[(51,.agg #[.int .i64 h7,.int .i64 h8]),(60,.tuple #[.agg #[.int .i64 h3,.int .i64 h5],.agg #[.int .i64 h4,.int .i64 h6]]),(42,.tuple #[.agg #[.int .i64 h3,.int .i64 h5],.agg #[.int .i64 h4,.int .i64 h6]]),(61,.agg #[.int .i64 h3,.int .i64 h5]),(62,.agg #[.int .i64 h4,.int .i64 h6])]) (fun s_ w'=>(w'.cell? (b2.add ((b0).toNat * 2)) = some (.int .i64 ((rd_T23 l2 b0).f0)) ∧ w'.cell? ⟨(b2.add ((b0).toNat * 2)).block,(b2.add ((b0).toNat * 2)).off + 1,none⟩ = some (.int .i64 ((rd_T23 l2 b0).f1)) ∧ w'.cell? (b2.add ((b1).toNat * 2)) = some (.int .i64 ((rd_T23 l2 b1).f0)) ∧ w'.cell? ⟨(b2.add ((b1).toNat * 2)).block,(b2.add ((b1).toNat * 2)).off + 1,none⟩ = some (.int .i64 ((rd_T23 l2 b1).f1)) ∧ w'.cell? (b9.add (b0).toNat) = some (.int .i64 (rd l0 b0)) ∧ w'.cell? (b9.add (b1).toNat) = some (.int .i64 (rd l0 b1))) ∧ (w'.heap[b7]? = some (.cells #[.int .i64 e0,.int .i64 d9] 51 (0,0))) ∧ (w'.heap[b8]? = some (.cells #[.slice (some b9) l0.length c0,.int .i64 a1] 94 (0,0))) ∧ (Below w.heap.size w w')) ?_ ?_
          rotate_left
          ·intro q9
           refine join_ (σ:=Nat) 7 (ba 25 2228223) (fun s_=>[(51,.agg #[.int .i64 h7,.int .i64 h8]),(13,.pointer (some ⟨s_,0,none⟩))]) (fun s_ w'=>(w'.cell? (b2.add ((b0).toNat * 2)) = some (.int .i64 ((rd_T23 l2 b0).f0)) ∧ w'.cell? ⟨(b2.add ((b0).toNat * 2)).block,(b2.add ((b0).toNat * 2)).off + 1,none⟩ = some (.int .i64 ((rd_T23 l2 b0).f1)) ∧ w'.cell? (b2.add ((b1).toNat * 2)) = some (.int .i64 ((rd_T23 l2 b1).f0)) ∧ w'.cell? ⟨(b2.add ((b1).toNat * 2)).block,(b2.add ((b1).toNat * 2)).off + 1,none⟩ = some (.int .i64 ((rd_T23 l2 b1).f1)) ∧ w'.cell? (b9.add (b0).toNat) = some (.int .i64 (rd l0 b0)) ∧ w'.cell? (b9.add (b1).toNat) = some (.int .i64 (rd l0 b1))) ∧ (w'.heap[b7]? = some (.cells #[.int .i64 e0,.int .i64 d9] 51 (0,0))) ∧ (w'.heap[b8]? = some (.cells #[.slice (some b9) l0.length c0,.int .i64 a1] 94 (0,0))) ∧ (w'.heap[s_]? = some (.cells #[.int .i64 0,.int .i64 0] 23 (0,0))) ∧ (w.heap.size ≤ s_) ∧ (w.heap.size ≤ s_) ∧ (b7 ≠ s_) ∧ (s_ ≠ b7) ∧ (b8 ≠ s_) ∧ (s_ ≠ b8) ∧ (Below w.heap.size w w')) ?_ ?_
           rotate_left
           ·intro p3
            refine join_ (σ:=Nat) 7 (ba 25 4325375) (fun s_=>[(51,.agg #[.int .i64 h7,.int .i64 h8]),(14,.pointer (some ⟨s_,0,none⟩))]) (fun s_ w'=>(w'.cell? (b2.add ((b0).toNat * 2)) = some (.int .i64 ((rd_T23 l2 b0).f0)) ∧ w'.cell? ⟨(b2.add ((b0).toNat * 2)).block,(b2.add ((b0).toNat * 2)).off + 1,none⟩ = some (.int .i64 ((rd_T23 l2 b0).f1)) ∧ w'.cell? (b2.add ((b1).toNat * 2)) = some (.int .i64 ((rd_T23 l2 b1).f0)) ∧ w'.cell? ⟨(b2.add ((b1).toNat * 2)).block,(b2.add ((b1).toNat * 2)).off + 1,none⟩ = some (.int .i64 ((rd_T23 l2 b1).f1)) ∧ w'.cell? (b9.add (b0).toNat) = some (.int .i64 (rd l0 b0)) ∧ w'.cell? (b9.add (b1).toNat) = some (.int .i64 (rd l0 b1))) ∧ (w'.heap[b7]? = some (.cells #[.int .i64 e0,.int .i64 d9] 51 (0,0))) ∧ (w'.heap[b8]? = some (.cells #[.slice (some b9) l0.length c0,.int .i64 a1] 94 (0,0))) ∧ (w'.heap[s_]? = some (.cells #[.int .i64 0,.int .i64 0] 23 (0,0))) ∧ (w.heap.size ≤ s_) ∧ (w.heap.size ≤ s_) ∧ (b7 ≠ s_) ∧ (s_ ≠ b7) ∧ (b8 ≠ s_) ∧ (s_ ≠ b8) ∧ (Below w.heap.size w w')) ?_ ?_
            rotate_left
            ·intro p4
             refine join_ (σ:=Nat × Nat) 7 (ba 25 6422271) (fun s_=>[(13,.pointer (some ⟨s_.1,0,none⟩)),(14,.pointer (some ⟨s_.2,0,none⟩))]) (fun s_ w'=>(w'.cell? (b2.add ((b0).toNat * 2)) = some (.int .i64 ((rd_T23 l2 b0).f0)) ∧ w'.cell? ⟨(b2.add ((b0).toNat * 2)).block,(b2.add ((b0).toNat * 2)).off + 1,none⟩ = some (.int .i64 ((rd_T23 l2 b0).f1)) ∧ w'.cell? (b2.add ((b1).toNat * 2)) = some (.int .i64 ((rd_T23 l2 b1).f0)) ∧ w'.cell? ⟨(b2.add ((b1).toNat * 2)).block,(b2.add ((b1).toNat * 2)).off + 1,none⟩ = some (.int .i64 ((rd_T23 l2 b1).f1)) ∧ w'.cell? (b9.add (b0).toNat) = some (.int .i64 (rd l0 b0)) ∧ w'.cell? (b9.add (b1).toNat) = some (.int .i64 (rd l0 b1))) ∧ (w'.heap[b7]? = some (.cells #[.int .i64 e0,.int .i64 d9] 51 (0,0))) ∧ (w'.heap[b8]? = some (.cells #[.slice (some b9) l0.length c0,.int .i64 a1] 94 (0,0))) ∧ (w'.heap[s_.1]? = some (.cells #[.int .i64 0,.int .i64 0] 23 (0,0))) ∧ (w'.heap[s_.2]? = some (.cells #[.int .i64 0,.int .i64 0] 23 (0,0))) ∧ (w.heap.size ≤ s_.1) ∧ (w.heap.size ≤ s_.1) ∧ (b7 ≠ s_.1) ∧ (s_.1 ≠ b7) ∧ (b8 ≠ s_.1) ∧ (s_.1 ≠ b8) ∧ (s_.2 ≠ s_.1) ∧ (s_.1 ≠ s_.2) ∧ (w.heap.size ≤ s_.2) ∧ (w.heap.size ≤ s_.2) ∧ (b7 ≠ s_.2) ∧ (s_.2 ≠ b7) ∧ (b8 ≠ s_.2) ∧ (s_.2 ≠ b8) ∧ (Below w.heap.size w w')) ?_ ?_
             rotate_left
             ·intro o0
              refine join_ (σ:=Unit) 8 (ba 25 131071) (fun s_=>[(51,.agg #[.int .i64 h7,.int .i64 h8])]) (fun s_ w'=>(w'.cell? (b2.add ((b0).toNat * 2)) = some (.int .i64 ((rd_T23 l2 b0).f0)) ∧ w'.cell? ⟨(b2.add ((b0).toNat * 2)).block,(b2.add ((b0).toNat * 2)).off + 1,none⟩ = some (.int .i64 ((rd_T23 l2 b0).f1)) ∧ w'.cell? (b2.add ((b1).toNat * 2)) = some (.int .i64 ((rd_T23 l2 b1).f0)) ∧ w'.cell? ⟨(b2.add ((b1).toNat * 2)).block,(b2.add ((b1).toNat * 2)).off + 1,none⟩ = some (.int .i64 ((rd_T23 l2 b1).f1)) ∧ w'.cell? (b9.add (b0).toNat) = some (.int .i64 (rd l0 b0)) ∧ w'.cell? (b9.add (b1).toNat) = some (.int .i64 (rd l0 b1))) ∧ (w'.heap[b7]? = some (.cells #[.int .i64 e0,.int .i64 d9] 51 (0,0))) ∧ (w'.heap[b8]? = some (.cells #[.slice (some b9) l0.length c0,.int .i64 a1] 94 (0,0))) ∧ (Below w.heap.size w w')) ?_ ?_
              rotate_left
              ·intro z7
               refine join_ (σ:=Nat) 8 (ba 25 2227967) (fun s_=>[(13,.pointer (some ⟨s_,0,none⟩))]) (fun s_ w'=>(w'.cell? (b2.add ((b0).toNat * 2)) = some (.int .i64 ((rd_T23 l2 b0).f0)) ∧ w'.cell? ⟨(b2.add ((b0).toNat * 2)).block,(b2.add ((b0).toNat * 2)).off + 1,none⟩ = some (.int .i64 ((rd_T23 l2 b0).f1)) ∧ w'.cell? (b2.add ((b1).toNat * 2)) = some (.int .i64 ((rd_T23 l2 b1).f0)) ∧ w'.cell? ⟨(b2.add ((b1).toNat * 2)).block,(b2.add ((b1).toNat * 2)).off + 1,none⟩ = some (.int .i64 ((rd_T23 l2 b1).f1)) ∧ w'.cell? (b9.add (b0).toNat) = some (.int .i64 (rd l0 b0)) ∧ w'.cell? (b9.add (b1).toNat) = some (.int .i64 (rd l0 b1))) ∧ (w'.heap[b7]? = some (.cells #[.int .i64 e0,.int .i64 d9] 51 (0,0))) ∧ (w'.heap[b8]? = some (.cells #[.slice (some b9) l0.length c0,.int .i64 a1] 94 (0,0))) ∧ (w'.heap[s_]? = some (.cells #[.int .i64 0,.int .i64 0] 23 (0,0))) ∧ (w.heap.size ≤ s_) ∧ (w.heap.size ≤ s_) ∧ (b7 ≠ s_) ∧ (s_ ≠ b7) ∧ (b8 ≠ s_) ∧ (s_ ≠ b8) ∧ (Below w.heap.size w w')) ?_ ?_
               rotate_left
               ·intro t9
                refine join_ (σ:=Nat) 8 (ba 25 4325119) (fun s_=>[(14,.pointer (some ⟨s_,0,none⟩))]) (fun s_ w'=>(w'.cell? (b2.add ((b0).toNat * 2)) = some (.int .i64 ((rd_T23 l2 b0).f0)) ∧ w'.cell? ⟨(b2.add ((b0).toNat * 2)).block,(b2.add ((b0).toNat * 2)).off + 1,none⟩ = some (.int .i64 ((rd_T23 l2 b0).f1)) ∧ w'.cell? (b2.add ((b1).toNat * 2)) = some (.int .i64 ((rd_T23 l2 b1).f0)) ∧ w'.cell? ⟨(b2.add ((b1).toNat * 2)).block,(b2.add ((b1).toNat * 2)).off + 1,none⟩ = some (.int .i64 ((rd_T23 l2 b1).f1)) ∧ w'.cell? (b9.add (b0).toNat) = some (.int .i64 (rd l0 b0)) ∧ w'.cell? (b9.add (b1).toNat) = some (.int .i64 (rd l0 b1))) ∧ (w'.heap[b7]? = some (.cells #[.int .i64 e0,.int .i64 d9] 51 (0,0))) ∧ (w'.heap[b8]? = some (.cells #[.slice (some b9) l0.length c0,.int .i64 a1] 94 (0,0))) ∧ (w'.heap[s_]? = some (.cells #[.int .i64 0,.int .i64 0] 23 (0,0))) ∧ (w.heap.size ≤ s_) ∧ (w.heap.size ≤ s_) ∧ (b7 ≠ s_) ∧ (s_ ≠ b7) ∧ (b8 ≠ s_) ∧ (s_ ≠ b8) ∧ (Below w.heap.size w w')) ?_ ?_
                rotate_left
                ·intro x1
                 refine three_ (i:=8) (j:=21) (k:=22) (Ni:=some 51) (Nj:=some 13) (Nk:=some 14) (ba 25 131071) (ba 25 2227967) (ba 25 4325119) rfl rfl rfl rfl rfl rfl (three_of HT_.out (by kernel_rfl)) (by decide) (by decide) (by decide) (fun K hK=>?_) (fun K hK=>?_) (fun K hK=>?_)
                 ·skip
                  refine gq Try.func88 #[.agg #[.int .i64 ((rd_T23 l2 b0).f0),.int .i64 ((rd_T23 l2 b0).f1)],.agg #[.int .i64 ((rd_T23 l2 b1).f0),.int .i64 ((rd_T23 l2 b1).f1)]] ?_
                  with_reducible refine (shares_add.calls k2 ((rd_T23 l2 b0).f0) ((rd_T23 l2 b0).f1) ((rd_T23 l2 b1).f0) ((rd_T23 l2 b1).f1) h7 h8 _ t1.out).mono ?_
                  rintro e P0 ⟨rfl,hb⟩
                  refine ⟨_,rfl,?_⟩
                  replace b3:=kB b3 hb
                  replace b4:=kB b4 hb
                  replace HB:=bB HB hb
                  (try clear hb)
                  refine hK.out _ _ ⟨(cT HB e6),(cT HB e5),(cT HB e8),(cT HB e7),(cT HB e9),(cT HB h0)⟩ (fun hHeld=>?_)
                  clear hK K
                  refine nq 51 ?_
                  exact norm_ (by first | (simp only [putAll,Act.put,List.setIfInBounds_toArray,List.set_cons_zero,List.set_cons_succ];done) | (simp only [putAll,Act.put,List.setIfInBounds_toArray,List.set_cons_zero,List.set_cons_succ];rfl)) (z7 () _ ⟨hHeld,(kb b3),(kb b4),(bl HB)⟩)
                 ·skip
                  refine box_step ?hg (N:=13) ?hd (cs:=#[.int .i64 0,.int .i64 0]) (t:=23) ?hr ?_;(case hd=>rfl);(case hg=>rfl);(case hr=>first | (go_simp;done) | (go_simp;rfl))
                  intro b5 hg P0 hbox hb
                  have d7:=A_ hbox
                  have e3:=gw hg HB
                  have h1:=e3
                  have c1:=nl hg b3
                  have d3:=ng hg b3
                  have d1:=nl hg b4
                  have d5:=ng hg b4
                  replace b3:=kB b3 hb
                  replace b4:=kB b4 hb
                  replace HB:=bB HB hb
                  clear hb hbox hg
                  refine hK.out _ _ ⟨(cT HB e6),(cT HB e5),(cT HB e8),(cT HB e7),(cT HB e9),(cT HB h0)⟩ (fun hHeld=>?_)
                  clear hK K
                  refine nq 13 ?_
                  exact norm_ (by first | (simp only [putAll,Act.put,List.setIfInBounds_toArray,List.set_cons_zero,List.set_cons_succ];done) | (simp only [putAll,Act.put,List.setIfInBounds_toArray,List.set_cons_zero,List.set_cons_succ];rfl)) (t9 (b5) _ ⟨hHeld,(kb b3),(kb b4),(kb d7),e3.out,h1.out,c1.out,d3.out,d1.out,d5.out,(bl HB)⟩)
                 skip
                 refine box_step ?hg (N:=14) ?hd (cs:=#[.int .i64 0,.int .i64 0]) (t:=23) ?hr ?_;(case hd=>rfl);(case hg=>rfl);(case hr=>first | (go_simp;done) | (go_simp;rfl))
                 intro b6 hg P0 hbox hb
                 have d8:=A_ hbox
                 have e4:=gw hg HB
                 have h2:=e4
                 have d0:=nl hg b3
                 have d4:=ng hg b3
                 have d2:=nl hg b4
                 have d6:=ng hg b4
                 replace b3:=kB b3 hb
                 replace b4:=kB b4 hb
                 replace HB:=bB HB hb
                 clear hb hbox hg
                 refine hK.out _ _ ⟨(cT HB e6),(cT HB e5),(cT HB e8),(cT HB e7),(cT HB e9),(cT HB h0)⟩ (fun hHeld=>?_)
                 clear hK K
                 refine nq 14 ?_
                 exact norm_ (by first | (simp only [putAll,Act.put,List.setIfInBounds_toArray,List.set_cons_zero,List.set_cons_succ];done) | (simp only [putAll,Act.put,List.setIfInBounds_toArray,List.set_cons_zero,List.set_cons_succ];rfl)) (x1 (b6) _ ⟨hHeld,(kb b3),(kb b4),(kb d8),e4.out,h2.out,d0.out,d4.out,d2.out,d6.out,(bl HB)⟩)
                skip
                rintro b6 p9 ⟨hS_,i1,i2,i3,j9,l5,l6,l7,l8,l9,m0⟩
                have d8:Aside0 (p9.heap[b6]? = some (.cells #[.int .i64 0,.int .i64 0] 23 (0,0))):=⟨i3⟩
                have e4:Aside0 (w.heap.size ≤ b6):=⟨j9⟩
                have h2:Aside0 (w.heap.size ≤ b6):=⟨l5⟩
                have d0:Aside0 (b7 ≠ b6):=⟨l6⟩
                have d4:Aside0 (b6 ≠ b7):=⟨l7⟩
                have d2:Aside0 (b8 ≠ b6):=⟨l8⟩
                have d6:Aside0 (b6 ≠ b8):=⟨l9⟩
                replace b3:Aside0 (p9.heap[b7]? = some (.cells #[.int .i64 e0,.int .i64 d9] 51 (0,0))):=⟨i1⟩
                replace b4:Aside0 (p9.heap[b8]? = some (.cells #[.slice (some b9) l0.length c0,.int .i64 a1] 94 (0,0))):=⟨i2⟩
                replace HB:Aside0 (Below w.heap.size w p9):=⟨m0⟩
                clear i1 i2 i3 j9 l5 l6 l7 l8 l9 m0
                have hHeld:p9.cell? (b2.add ((b0).toNat * 2)) = some (.int .i64 ((rd_T23 l2 b0).f0)) ∧ p9.cell? ⟨(b2.add ((b0).toNat * 2)).block,(b2.add ((b0).toNat * 2)).off + 1,none⟩ = some (.int .i64 ((rd_T23 l2 b0).f1)) ∧ p9.cell? (b2.add ((b1).toNat * 2)) = some (.int .i64 ((rd_T23 l2 b1).f0)) ∧ p9.cell? ⟨(b2.add ((b1).toNat * 2)).block,(b2.add ((b1).toNat * 2)).off + 1,none⟩ = some (.int .i64 ((rd_T23 l2 b1).f1)) ∧ p9.cell? (b9.add (b0).toNat) = some (.int .i64 (rd l0 b0)) ∧ p9.cell? (b9.add (b1).toNat) = some (.int .i64 (rd l0 b1)):=hS_
                refine norm_ (a':=?_) ?_ ?_
                rotate_left
                ·simp only [putAll,Act.put,List.setIfInBounds_toArray,List.set_cons_zero,List.set_cons_succ]
                 rfl
                refine two_ (i:=8) (j:=21) (Ni:=some 51) (Nj:=some 13) (ba 25 4325375) (ba 25 6422271) rfl rfl rfl rfl (two_of HT_.out (by kernel_rfl)) (by decide) (by decide) (fun K hK=>?_) (fun K hK=>?_)
                ·skip
                 refine gq Try.func88 #[.agg #[.int .i64 ((rd_T23 l2 b0).f0),.int .i64 ((rd_T23 l2 b0).f1)],.agg #[.int .i64 ((rd_T23 l2 b1).f0),.int .i64 ((rd_T23 l2 b1).f1)]] ?_
                 with_reducible refine (shares_add.calls k2 ((rd_T23 l2 b0).f0) ((rd_T23 l2 b0).f1) ((rd_T23 l2 b1).f0) ((rd_T23 l2 b1).f1) h7 h8 _ t1.out).mono ?_
                 rintro e n6 ⟨rfl,hb⟩
                 refine ⟨_,rfl,?_⟩
                 replace b3:=kB b3 hb
                 replace b4:=kB b4 hb
                 replace d8:=kB d8 hb
                 replace HB:=bB HB hb
                 (try clear hb)
                 refine hK.out _ _ ⟨(cT HB e6),(cT HB e5),(cT HB e8),(cT HB e7),(cT HB e9),(cT HB h0)⟩ (fun hHeld=>?_)
                 clear hK K
                 refine nq 51 ?_
                 exact norm_ (by first | (simp only [putAll,Act.put,List.setIfInBounds_toArray,List.set_cons_zero,List.set_cons_succ];done) | (simp only [putAll,Act.put,List.setIfInBounds_toArray,List.set_cons_zero,List.set_cons_succ];rfl)) (p4 (b6) _ ⟨hHeld,(kb b3),(kb b4),(kb d8),e4.out,h2.out,d0.out,d4.out,d2.out,d6.out,(bl HB)⟩)
                skip
                refine box_step ?hg (N:=13) ?hd (cs:=#[.int .i64 0,.int .i64 0]) (t:=23) ?hr ?_;(case hd=>rfl);(case hg=>rfl);(case hr=>first | (go_simp;done) | (go_simp;rfl))
                intro b5 hg n6 hbox hb
                have d7:=A_ hbox
                have e3:=gw hg HB
                have h1:=e3
                have c1:=nl hg b3
                have d3:=ng hg b3
                have d1:=nl hg b4
                have d5:=ng hg b4
                have e1:=nl hg d8
                have e2:=ng hg d8
                replace b3:=kB b3 hb
                replace b4:=kB b4 hb
                replace d8:=kB d8 hb
                replace HB:=bB HB hb
                clear hb hbox hg
                refine hK.out _ _ ⟨(cT HB e6),(cT HB e5),(cT HB e8),(cT HB e7),(cT HB e9),(cT HB h0)⟩ (fun hHeld=>?_)
                clear hK K
                refine nq 13 ?_
                exact norm_ (by first | (simp only [putAll,Act.put,List.setIfInBounds_toArray,List.set_cons_zero,List.set_cons_succ];done) | (simp only [putAll,Act.put,List.setIfInBounds_toArray,List.set_cons_zero,List.set_cons_succ];rfl)) (o0 (b5,b6) _ ⟨hHeld,(kb b3),(kb b4),(kb d7),(kb d8),e3.out,h1.out,c1.out,d3.out,d1.out,d5.out,e1.out,e2.out,e4.out,h2.out,d0.out,d4.out,d2.out,d6.out,(bl HB)⟩)
               skip
               rintro b5 p9 ⟨hS_,i1,i2,i3,j9,l5,l6,l7,l8,l9,m0⟩
               have d7:Aside0 (p9.heap[b5]? = some (.cells #[.int .i64 0,.int .i64 0] 23 (0,0))):=⟨i3⟩
               have e3:Aside0 (w.heap.size ≤ b5):=⟨j9⟩
               have h1:Aside0 (w.heap.size ≤ b5):=⟨l5⟩
               have c1:Aside0 (b7 ≠ b5):=⟨l6⟩
               have d3:Aside0 (b5 ≠ b7):=⟨l7⟩
               have d1:Aside0 (b8 ≠ b5):=⟨l8⟩
               have d5:Aside0 (b5 ≠ b8):=⟨l9⟩
               replace b3:Aside0 (p9.heap[b7]? = some (.cells #[.int .i64 e0,.int .i64 d9] 51 (0,0))):=⟨i1⟩
               replace b4:Aside0 (p9.heap[b8]? = some (.cells #[.slice (some b9) l0.length c0,.int .i64 a1] 94 (0,0))):=⟨i2⟩
               replace HB:Aside0 (Below w.heap.size w p9):=⟨m0⟩
               clear i1 i2 i3 j9 l5 l6 l7 l8 l9 m0
               have hHeld:p9.cell? (b2.add ((b0).toNat * 2)) = some (.int .i64 ((rd_T23 l2 b0).f0)) ∧ p9.cell? ⟨(b2.add ((b0).toNat * 2)).block,(b2.add ((b0).toNat * 2)).off + 1,none⟩ = some (.int .i64 ((rd_T23 l2 b0).f1)) ∧ p9.cell? (b2.add ((b1).toNat * 2)) = some (.int .i64 ((rd_T23 l2 b1).f0)) ∧ p9.cell? ⟨(b2.add ((b1).toNat * 2)).block,(b2.add ((b1).toNat * 2)).off + 1,none⟩ = some (.int .i64 ((rd_T23 l2 b1).f1)) ∧ p9.cell? (b9.add (b0).toNat) = some (.int .i64 (rd l0 b0)) ∧ p9.cell? (b9.add (b1).toNat) = some (.int .i64 (rd l0 b1)):=hS_
               refine norm_ (a':=?_) ?_ ?_
               rotate_left
               ·simp only [putAll,Act.put,List.setIfInBounds_toArray,List.set_cons_zero,List.set_cons_succ]
                rfl
               refine two_ (i:=8) (j:=22) (Ni:=some 51) (Nj:=some 14) (ba 25 2228223) (ba 25 6422271) rfl rfl rfl rfl (two_of HT_.out (by kernel_rfl)) (by decide) (by decide) (fun K hK=>?_) (fun K hK=>?_)
               ·skip
                refine gq Try.func88 #[.agg #[.int .i64 ((rd_T23 l2 b0).f0),.int .i64 ((rd_T23 l2 b0).f1)],.agg #[.int .i64 ((rd_T23 l2 b1).f0),.int .i64 ((rd_T23 l2 b1).f1)]] ?_
                with_reducible refine (shares_add.calls k2 ((rd_T23 l2 b0).f0) ((rd_T23 l2 b0).f1) ((rd_T23 l2 b1).f0) ((rd_T23 l2 b1).f1) h7 h8 _ t1.out).mono ?_
                rintro e n6 ⟨rfl,hb⟩
                refine ⟨_,rfl,?_⟩
                replace b3:=kB b3 hb
                replace b4:=kB b4 hb
                replace d7:=kB d7 hb
                replace HB:=bB HB hb
                (try clear hb)
                refine hK.out _ _ ⟨(cT HB e6),(cT HB e5),(cT HB e8),(cT HB e7),(cT HB e9),(cT HB h0)⟩ (fun hHeld=>?_)
                clear hK K
                refine nq 51 ?_
                exact norm_ (by first | (simp only [putAll,Act.put,List.setIfInBounds_toArray,List.set_cons_zero,List.set_cons_succ];done) | (simp only [putAll,Act.put,List.setIfInBounds_toArray,List.set_cons_zero,List.set_cons_succ];rfl)) (p3 (b5) _ ⟨hHeld,(kb b3),(kb b4),(kb d7),e3.out,h1.out,c1.out,d3.out,d1.out,d5.out,(bl HB)⟩)
               skip
               refine box_step ?hg (N:=14) ?hd (cs:=#[.int .i64 0,.int .i64 0]) (t:=23) ?hr ?_;(case hd=>rfl);(case hg=>rfl);(case hr=>first | (go_simp;done) | (go_simp;rfl))
               intro b6 hg n6 hbox hb
               have d8:=A_ hbox
               have e4:=gw hg HB
               have h2:=e4
               have d0:=nl hg b3
               have d4:=ng hg b3
               have d2:=nl hg b4
               have d6:=ng hg b4
               have e2:=nl hg d7
               have e1:=ng hg d7
               replace b3:=kB b3 hb
               replace b4:=kB b4 hb
               replace d7:=kB d7 hb
               replace HB:=bB HB hb
               clear hb hbox hg
               refine hK.out _ _ ⟨(cT HB e6),(cT HB e5),(cT HB e8),(cT HB e7),(cT HB e9),(cT HB h0)⟩ (fun hHeld=>?_)
               clear hK K
               refine nq 14 ?_
               exact norm_ (by first | (simp only [putAll,Act.put,List.setIfInBounds_toArray,List.set_cons_zero,List.set_cons_succ];done) | (simp only [putAll,Act.put,List.setIfInBounds_toArray,List.set_cons_zero,List.set_cons_succ];rfl)) (o0 (b5,b6) _ ⟨hHeld,(kb b3),(kb b4),(kb d7),(kb d8),e3.out,h1.out,c1.out,d3.out,d1.out,d5.out,e1.out,e2.out,e4.out,h2.out,d0.out,d4.out,d2.out,d6.out,(bl HB)⟩)
              skip
              rintro _ p9 ⟨hS_,i1,i2,i3⟩
              replace b3:Aside0 (p9.heap[b7]? = some (.cells #[.int .i64 e0,.int .i64 d9] 51 (0,0))):=⟨i1⟩
              replace b4:Aside0 (p9.heap[b8]? = some (.cells #[.slice (some b9) l0.length c0,.int .i64 a1] 94 (0,0))):=⟨i2⟩
              replace HB:Aside0 (Below w.heap.size w p9):=⟨i3⟩
              clear i1 i2 i3
              have hHeld:p9.cell? (b2.add ((b0).toNat * 2)) = some (.int .i64 ((rd_T23 l2 b0).f0)) ∧ p9.cell? ⟨(b2.add ((b0).toNat * 2)).block,(b2.add ((b0).toNat * 2)).off + 1,none⟩ = some (.int .i64 ((rd_T23 l2 b0).f1)) ∧ p9.cell? (b2.add ((b1).toNat * 2)) = some (.int .i64 ((rd_T23 l2 b1).f0)) ∧ p9.cell? ⟨(b2.add ((b1).toNat * 2)).block,(b2.add ((b1).toNat * 2)).off + 1,none⟩ = some (.int .i64 ((rd_T23 l2 b1).f1)) ∧ p9.cell? (b9.add (b0).toNat) = some (.int .i64 (rd l0 b0)) ∧ p9.cell? (b9.add (b1).toNat) = some (.int .i64 (rd l0 b1)):=hS_
              refine norm_ (a':=?_) ?_ ?_
              rotate_left
              ·simp only [putAll,Act.put,List.setIfInBounds_toArray,List.set_cons_zero,List.set_cons_succ]
               rfl
              refine three_ (i:=17) (j:=21) (k:=22) (Ni:=some 60) (Nj:=some 13) (Nk:=some 14) (ba 25 262143) (ba 25 2228223) (ba 25 4325375) rfl rfl rfl rfl rfl rfl (three_of HT_.out (by kernel_rfl)) (by decide) (by decide) (by decide) (fun K hK=>?_) (fun K hK=>?_) (fun K hK=>?_)
              ·skip
               refine gq Try.func63 #[.agg #[.int .i64 h7,.int .i64 h8],.int .i64 (rd l0 b0),.int .i64 (rd l0 b1)] ?_
               with_reducible refine (shares_garment.calls k2 h7 h8 (rd l0 b0) (rd l0 b1) h3 h5 h4 h6 _ t2.out).mono ?_
               rintro e n6 ⟨rfl,hb⟩
               refine ⟨_,rfl,?_⟩
               replace b3:=kB b3 hb
               replace b4:=kB b4 hb
               replace HB:=bB HB hb
               (try clear hb)
               refine hK.out _ _ ⟨(cT HB e6),(cT HB e5),(cT HB e8),(cT HB e7),(cT HB e9),(cT HB h0)⟩ (fun hHeld=>?_)
               clear hK K
               refine nq 60 ?_
               refine pq 18 42 524287 HT_ ?_
               refine pq 19 61 1048575 HT_ ?_
               refine pq 20 62 2097151 HT_ ?_
               exact norm_ (by first | (simp only [putAll,Act.put,List.setIfInBounds_toArray,List.set_cons_zero,List.set_cons_succ];done) | (simp only [putAll,Act.put,List.setIfInBounds_toArray,List.set_cons_zero,List.set_cons_succ];rfl)) (q9 () _ ⟨hHeld,(kb b3),(kb b4),(bl HB)⟩)
              ·skip
               refine box_step ?hg (N:=13) ?hd (cs:=#[.int .i64 0,.int .i64 0]) (t:=23) ?hr ?_;(case hd=>rfl);(case hg=>rfl);(case hr=>first | (go_simp;done) | (go_simp;rfl))
               intro b5 hg n6 hbox hb
               have d7:=A_ hbox
               have e3:=gw hg HB
               have h1:=e3
               have c1:=nl hg b3
               have d3:=ng hg b3
               have d1:=nl hg b4
               have d5:=ng hg b4
               replace b3:=kB b3 hb
               replace b4:=kB b4 hb
               replace HB:=bB HB hb
               clear hb hbox hg
               refine hK.out _ _ ⟨(cT HB e6),(cT HB e5),(cT HB e8),(cT HB e7),(cT HB e9),(cT HB h0)⟩ (fun hHeld=>?_)
               clear hK K
               refine nq 13 ?_
               exact norm_ (by first | (simp only [putAll,Act.put,List.setIfInBounds_toArray,List.set_cons_zero,List.set_cons_succ];done) | (simp only [putAll,Act.put,List.setIfInBounds_toArray,List.set_cons_zero,List.set_cons_succ];rfl)) (p3 (b5) _ ⟨hHeld,(kb b3),(kb b4),(kb d7),e3.out,h1.out,c1.out,d3.out,d1.out,d5.out,(bl HB)⟩)
              skip
              refine box_step ?hg (N:=14) ?hd (cs:=#[.int .i64 0,.int .i64 0]) (t:=23) ?hr ?_;(case hd=>rfl);(case hg=>rfl);(case hr=>first | (go_simp;done) | (go_simp;rfl))
              intro b6 hg n6 hbox hb
              have d8:=A_ hbox
              have e4:=gw hg HB
              have h2:=e4
              have d0:=nl hg b3
              have d4:=ng hg b3
              have d2:=nl hg b4
              have d6:=ng hg b4
              replace b3:=kB b3 hb
              replace b4:=kB b4 hb
              replace HB:=bB HB hb
              clear hb hbox hg
              refine hK.out _ _ ⟨(cT HB e6),(cT HB e5),(cT HB e8),(cT HB e7),(cT HB e9),(cT HB h0)⟩ (fun hHeld=>?_)
              clear hK K
              refine nq 14 ?_
              exact norm_ (by first | (simp only [putAll,Act.put,List.setIfInBounds_toArray,List.set_cons_zero,List.set_cons_succ];done) | (simp only [putAll,Act.put,List.setIfInBounds_toArray,List.set_cons_zero,List.set_cons_succ];rfl)) (p4 (b6) _ ⟨hHeld,(kb b3),(kb b4),(kb d8),e4.out,h2.out,d0.out,d4.out,d2.out,d6.out,(bl HB)⟩)
             skip
             rintro ⟨b5,b6⟩ n6 ⟨hS_,i1,i2,i3,j9,l5,l6,l7,l8,l9,m0,m7,m8,m9,n0,n1,n2,n3,n4,n5⟩
             have d7:Aside0 (n6.heap[b5]? = some (.cells #[.int .i64 0,.int .i64 0] 23 (0,0))):=⟨i3⟩
             have d8:Aside0 (n6.heap[b6]? = some (.cells #[.int .i64 0,.int .i64 0] 23 (0,0))):=⟨j9⟩
             have e3:Aside0 (w.heap.size ≤ b5):=⟨l5⟩
             have h1:Aside0 (w.heap.size ≤ b5):=⟨l6⟩
             have c1:Aside0 (b7 ≠ b5):=⟨l7⟩
             have d3:Aside0 (b5 ≠ b7):=⟨l8⟩
             have d1:Aside0 (b8 ≠ b5):=⟨l9⟩
             have d5:Aside0 (b5 ≠ b8):=⟨m0⟩
             have e1:Aside0 (b6 ≠ b5):=⟨m7⟩
             have e2:Aside0 (b5 ≠ b6):=⟨m8⟩
             have e4:Aside0 (w.heap.size ≤ b6):=⟨m9⟩
             have h2:Aside0 (w.heap.size ≤ b6):=⟨n0⟩
             have d0:Aside0 (b7 ≠ b6):=⟨n1⟩
             have d4:Aside0 (b6 ≠ b7):=⟨n2⟩
             have d2:Aside0 (b8 ≠ b6):=⟨n3⟩
             have d6:Aside0 (b6 ≠ b8):=⟨n4⟩
             replace b3:Aside0 (n6.heap[b7]? = some (.cells #[.int .i64 e0,.int .i64 d9] 51 (0,0))):=⟨i1⟩
             replace b4:Aside0 (n6.heap[b8]? = some (.cells #[.slice (some b9) l0.length c0,.int .i64 a1] 94 (0,0))):=⟨i2⟩
             replace HB:Aside0 (Below w.heap.size w n6):=⟨n5⟩
             clear i1 i2 i3 j9 l5 l6 l7 l8 l9 m0 m7 m8 m9 n0 n1 n2 n3 n4 n5
             have hHeld:n6.cell? (b2.add ((b0).toNat * 2)) = some (.int .i64 ((rd_T23 l2 b0).f0)) ∧ n6.cell? ⟨(b2.add ((b0).toNat * 2)).block,(b2.add ((b0).toNat * 2)).off + 1,none⟩ = some (.int .i64 ((rd_T23 l2 b0).f1)) ∧ n6.cell? (b2.add ((b1).toNat * 2)) = some (.int .i64 ((rd_T23 l2 b1).f0)) ∧ n6.cell? ⟨(b2.add ((b1).toNat * 2)).block,(b2.add ((b1).toNat * 2)).off + 1,none⟩ = some (.int .i64 ((rd_T23 l2 b1).f1)) ∧ n6.cell? (b9.add (b0).toNat) = some (.int .i64 (rd l0 b0)) ∧ n6.cell? (b9.add (b1).toNat) = some (.int .i64 (rd l0 b1)):=hS_
             refine norm_ (a':=?_) ?_ ?_
             rotate_left
             ·simp only [putAll,Act.put,List.setIfInBounds_toArray,List.set_cons_zero,List.set_cons_succ]
              rfl
             refine oq 8 51 6422527 HT_ (fun K hK=>?_)
             refine gq Try.func88 #[.agg #[.int .i64 ((rd_T23 l2 b0).f0),.int .i64 ((rd_T23 l2 b0).f1)],.agg #[.int .i64 ((rd_T23 l2 b1).f0),.int .i64 ((rd_T23 l2 b1).f1)]] ?_
             with_reducible refine (shares_add.calls k2 ((rd_T23 l2 b0).f0) ((rd_T23 l2 b0).f1) ((rd_T23 l2 b1).f0) ((rd_T23 l2 b1).f1) h7 h8 _ t1.out).mono ?_
             rintro e o1 ⟨rfl,hb⟩
             refine ⟨_,rfl,?_⟩
             replace b3:=kB b3 hb
             replace b4:=kB b4 hb
             replace d7:=kB d7 hb
             replace d8:=kB d8 hb
             replace HB:=bB HB hb
             (try clear hb)
             refine hK.out _ _ ⟨(cT HB e6),(cT HB e5),(cT HB e8),(cT HB e7),(cT HB e9),(cT HB h0)⟩ (fun hHeld=>?_)
             clear hK K
             refine nq 51 ?_
             exact norm_ (by first | (simp only [putAll,Act.put,List.setIfInBounds_toArray,List.set_cons_zero,List.set_cons_succ];done) | (simp only [putAll,Act.put,List.setIfInBounds_toArray,List.set_cons_zero,List.set_cons_succ];rfl)) (j8 (b5,b6) _ ⟨hHeld,(kb b3),(kb b4),(kb d7),(kb d8),e3.out,h1.out,c1.out,d3.out,d1.out,d5.out,e1.out,e2.out,e4.out,h2.out,d0.out,d4.out,d2.out,d6.out,(bl HB)⟩)
            skip
            rintro b6 n6 ⟨hS_,i1,i2,i3,j9,l5,l6,l7,l8,l9,m0⟩
            have d8:Aside0 (n6.heap[b6]? = some (.cells #[.int .i64 0,.int .i64 0] 23 (0,0))):=⟨i3⟩
            have e4:Aside0 (w.heap.size ≤ b6):=⟨j9⟩
            have h2:Aside0 (w.heap.size ≤ b6):=⟨l5⟩
            have d0:Aside0 (b7 ≠ b6):=⟨l6⟩
            have d4:Aside0 (b6 ≠ b7):=⟨l7⟩
            have d2:Aside0 (b8 ≠ b6):=⟨l8⟩
            have d6:Aside0 (b6 ≠ b8):=⟨l9⟩
            replace b3:Aside0 (n6.heap[b7]? = some (.cells #[.int .i64 e0,.int .i64 d9] 51 (0,0))):=⟨i1⟩
            replace b4:Aside0 (n6.heap[b8]? = some (.cells #[.slice (some b9) l0.length c0,.int .i64 a1] 94 (0,0))):=⟨i2⟩
            replace HB:Aside0 (Below w.heap.size w n6):=⟨m0⟩
            clear i1 i2 i3 j9 l5 l6 l7 l8 l9 m0
            have hHeld:n6.cell? (b2.add ((b0).toNat * 2)) = some (.int .i64 ((rd_T23 l2 b0).f0)) ∧ n6.cell? ⟨(b2.add ((b0).toNat * 2)).block,(b2.add ((b0).toNat * 2)).off + 1,none⟩ = some (.int .i64 ((rd_T23 l2 b0).f1)) ∧ n6.cell? (b2.add ((b1).toNat * 2)) = some (.int .i64 ((rd_T23 l2 b1).f0)) ∧ n6.cell? ⟨(b2.add ((b1).toNat * 2)).block,(b2.add ((b1).toNat * 2)).off + 1,none⟩ = some (.int .i64 ((rd_T23 l2 b1).f1)) ∧ n6.cell? (b9.add (b0).toNat) = some (.int .i64 (rd l0 b0)) ∧ n6.cell? (b9.add (b1).toNat) = some (.int .i64 (rd l0 b1)):=hS_
            refine norm_ (a':=?_) ?_ ?_
            rotate_left
            ·simp only [putAll,Act.put,List.setIfInBounds_toArray,List.set_cons_zero,List.set_cons_succ]
             rfl
            refine two_ (i:=17) (j:=21) (Ni:=some 60) (Nj:=some 13) (ba 25 4456447) (ba 25 6422527) rfl rfl rfl rfl (two_of HT_.out (by kernel_rfl)) (by decide) (by decide) (fun K hK=>?_) (fun K hK=>?_)
            ·skip
             refine gq Try.func63 #[.agg #[.int .i64 h7,.int .i64 h8],.int .i64 (rd l0 b0),.int .i64 (rd l0 b1)] ?_
             with_reducible refine (shares_garment.calls k2 h7 h8 (rd l0 b0) (rd l0 b1) h3 h5 h4 h6 _ t2.out).mono ?_
             rintro e o1 ⟨rfl,hb⟩
             refine ⟨_,rfl,?_⟩
             replace b3:=kB b3 hb
             replace b4:=kB b4 hb
             replace d8:=kB d8 hb
             replace HB:=bB HB hb
             (try clear hb)
             refine hK.out _ _ ⟨(cT HB e6),(cT HB e5),(cT HB e8),(cT HB e7),(cT HB e9),(cT HB h0)⟩ (fun hHeld=>?_)
             clear hK K
             refine nq 60 ?_
             refine pq 18 42 4718591 HT_ ?_
             refine pq 19 61 5242879 HT_ ?_
             refine pq 20 62 6291455 HT_ ?_
             exact norm_ (by first | (simp only [putAll,Act.put,List.setIfInBounds_toArray,List.set_cons_zero,List.set_cons_succ];done) | (simp only [putAll,Act.put,List.setIfInBounds_toArray,List.set_cons_zero,List.set_cons_succ];rfl)) (m3 (b6) _ ⟨hHeld,(kb b3),(kb b4),(kb d8),e4.out,h2.out,d0.out,d4.out,d2.out,d6.out,(bl HB)⟩)
            skip
            refine box_step ?hg (N:=13) ?hd (cs:=#[.int .i64 0,.int .i64 0]) (t:=23) ?hr ?_;(case hd=>rfl);(case hg=>rfl);(case hr=>first | (go_simp;done) | (go_simp;rfl))
            intro b5 hg o1 hbox hb
            have d7:=A_ hbox
            have e3:=gw hg HB
            have h1:=e3
            have c1:=nl hg b3
            have d3:=ng hg b3
            have d1:=nl hg b4
            have d5:=ng hg b4
            have e1:=nl hg d8
            have e2:=ng hg d8
            replace b3:=kB b3 hb
            replace b4:=kB b4 hb
            replace d8:=kB d8 hb
            replace HB:=bB HB hb
            clear hb hbox hg
            refine hK.out _ _ ⟨(cT HB e6),(cT HB e5),(cT HB e8),(cT HB e7),(cT HB e9),(cT HB h0)⟩ (fun hHeld=>?_)
            clear hK K
            refine nq 13 ?_
            exact norm_ (by first | (simp only [putAll,Act.put,List.setIfInBounds_toArray,List.set_cons_zero,List.set_cons_succ];done) | (simp only [putAll,Act.put,List.setIfInBounds_toArray,List.set_cons_zero,List.set_cons_succ];rfl)) (j8 (b5,b6) _ ⟨hHeld,(kb b3),(kb b4),(kb d7),(kb d8),e3.out,h1.out,c1.out,d3.out,d1.out,d5.out,e1.out,e2.out,e4.out,h2.out,d0.out,d4.out,d2.out,d6.out,(bl HB)⟩)
           skip
           rintro b5 n6 ⟨hS_,i1,i2,i3,j9,l5,l6,l7,l8,l9,m0⟩
           have d7:Aside0 (n6.heap[b5]? = some (.cells #[.int .i64 0,.int .i64 0] 23 (0,0))):=⟨i3⟩
           have e3:Aside0 (w.heap.size ≤ b5):=⟨j9⟩
           have h1:Aside0 (w.heap.size ≤ b5):=⟨l5⟩
           have c1:Aside0 (b7 ≠ b5):=⟨l6⟩
           have d3:Aside0 (b5 ≠ b7):=⟨l7⟩
           have d1:Aside0 (b8 ≠ b5):=⟨l8⟩
           have d5:Aside0 (b5 ≠ b8):=⟨l9⟩
           replace b3:Aside0 (n6.heap[b7]? = some (.cells #[.int .i64 e0,.int .i64 d9] 51 (0,0))):=⟨i1⟩
           replace b4:Aside0 (n6.heap[b8]? = some (.cells #[.slice (some b9) l0.length c0,.int .i64 a1] 94 (0,0))):=⟨i2⟩
           replace HB:Aside0 (Below w.heap.size w n6):=⟨m0⟩
           clear i1 i2 i3 j9 l5 l6 l7 l8 l9 m0
           have hHeld:n6.cell? (b2.add ((b0).toNat * 2)) = some (.int .i64 ((rd_T23 l2 b0).f0)) ∧ n6.cell? ⟨(b2.add ((b0).toNat * 2)).block,(b2.add ((b0).toNat * 2)).off + 1,none⟩ = some (.int .i64 ((rd_T23 l2 b0).f1)) ∧ n6.cell? (b2.add ((b1).toNat * 2)) = some (.int .i64 ((rd_T23 l2 b1).f0)) ∧ n6.cell? ⟨(b2.add ((b1).toNat * 2)).block,(b2.add ((b1).toNat * 2)).off + 1,none⟩ = some (.int .i64 ((rd_T23 l2 b1).f1)) ∧ n6.cell? (b9.add (b0).toNat) = some (.int .i64 (rd l0 b0)) ∧ n6.cell? (b9.add (b1).toNat) = some (.int .i64 (rd l0 b1)):=hS_
           refine norm_ (a':=?_) ?_ ?_
           rotate_left
           ·simp only [putAll,Act.put,List.setIfInBounds_toArray,List.set_cons_zero,List.set_cons_succ]
            rfl
           refine two_ (i:=17) (j:=22) (Ni:=some 60) (Nj:=some 14) (ba 25 2359295) (ba 25 6422527) rfl rfl rfl rfl (two_of HT_.out (by kernel_rfl)) (by decide) (by decide) (fun K hK=>?_) (fun K hK=>?_)
           ·skip
            refine gq Try.func63 #[.agg #[.int .i64 h7,.int .i64 h8],.int .i64 (rd l0 b0),.int .i64 (rd l0 b1)] ?_
            with_reducible refine (shares_garment.calls k2 h7 h8 (rd l0 b0) (rd l0 b1) h3 h5 h4 h6 _ t2.out).mono ?_
            rintro e o1 ⟨rfl,hb⟩
            refine ⟨_,rfl,?_⟩
            replace b3:=kB b3 hb
            replace b4:=kB b4 hb
            replace d7:=kB d7 hb
            replace HB:=bB HB hb
            (try clear hb)
            refine hK.out _ _ ⟨(cT HB e6),(cT HB e5),(cT HB e8),(cT HB e7),(cT HB e9),(cT HB h0)⟩ (fun hHeld=>?_)
            clear hK K
            refine nq 60 ?_
            refine pq 18 42 2621439 HT_ ?_
            refine pq 19 61 3145727 HT_ ?_
            refine pq 20 62 4194303 HT_ ?_
            exact norm_ (by first | (simp only [putAll,Act.put,List.setIfInBounds_toArray,List.set_cons_zero,List.set_cons_succ];done) | (simp only [putAll,Act.put,List.setIfInBounds_toArray,List.set_cons_zero,List.set_cons_succ];rfl)) (m2 (b5) _ ⟨hHeld,(kb b3),(kb b4),(kb d7),e3.out,h1.out,c1.out,d3.out,d1.out,d5.out,(bl HB)⟩)
           skip
           refine box_step ?hg (N:=14) ?hd (cs:=#[.int .i64 0,.int .i64 0]) (t:=23) ?hr ?_;(case hd=>rfl);(case hg=>rfl);(case hr=>first | (go_simp;done) | (go_simp;rfl))
           intro b6 hg o1 hbox hb
           have d8:=A_ hbox
           have e4:=gw hg HB
           have h2:=e4
           have d0:=nl hg b3
           have d4:=ng hg b3
           have d2:=nl hg b4
           have d6:=ng hg b4
           have e2:=nl hg d7
           have e1:=ng hg d7
           replace b3:=kB b3 hb
           replace b4:=kB b4 hb
           replace d7:=kB d7 hb
           replace HB:=bB HB hb
           clear hb hbox hg
           refine hK.out _ _ ⟨(cT HB e6),(cT HB e5),(cT HB e8),(cT HB e7),(cT HB e9),(cT HB h0)⟩ (fun hHeld=>?_)
           clear hK K
           refine nq 14 ?_
           exact norm_ (by first | (simp only [putAll,Act.put,List.setIfInBounds_toArray,List.set_cons_zero,List.set_cons_succ];done) | (simp only [putAll,Act.put,List.setIfInBounds_toArray,List.set_cons_zero,List.set_cons_succ];rfl)) (j8 (b5,b6) _ ⟨hHeld,(kb b3),(kb b4),(kb d7),(kb d8),e3.out,h1.out,c1.out,d3.out,d1.out,d5.out,e1.out,e2.out,e4.out,h2.out,d0.out,d4.out,d2.out,d6.out,(bl HB)⟩)
          skip
          rintro _ n6 ⟨hS_,i1,i2,i3⟩
          replace b3:Aside0 (n6.heap[b7]? = some (.cells #[.int .i64 e0,.int .i64 d9] 51 (0,0))):=⟨i1⟩
          replace b4:Aside0 (n6.heap[b8]? = some (.cells #[.slice (some b9) l0.length c0,.int .i64 a1] 94 (0,0))):=⟨i2⟩
          replace HB:Aside0 (Below w.heap.size w n6):=⟨i3⟩
          clear i1 i2 i3
          have hHeld:n6.cell? (b2.add ((b0).toNat * 2)) = some (.int .i64 ((rd_T23 l2 b0).f0)) ∧ n6.cell? ⟨(b2.add ((b0).toNat * 2)).block,(b2.add ((b0).toNat * 2)).off + 1,none⟩ = some (.int .i64 ((rd_T23 l2 b0).f1)) ∧ n6.cell? (b2.add ((b1).toNat * 2)) = some (.int .i64 ((rd_T23 l2 b1).f0)) ∧ n6.cell? ⟨(b2.add ((b1).toNat * 2)).block,(b2.add ((b1).toNat * 2)).off + 1,none⟩ = some (.int .i64 ((rd_T23 l2 b1).f1)) ∧ n6.cell? (b9.add (b0).toNat) = some (.int .i64 (rd l0 b0)) ∧ n6.cell? (b9.add (b1).toNat) = some (.int .i64 (rd l0 b1)):=hS_
          refine norm_ (a':=?_) ?_ ?_
          rotate_left
          ·simp only [putAll,Act.put,List.setIfInBounds_toArray,List.set_cons_zero,List.set_cons_succ]
           rfl
          refine two_ (i:=21) (j:=22) (Ni:=some 13) (Nj:=some 14) (ba 25 4194303) (ba 25 6291455) rfl rfl rfl rfl (two_of HT_.out (by kernel_rfl)) (by decide) (by decide) (fun K hK=>?_) (fun K hK=>?_)
          ·skip
           refine box_step ?hg (N:=13) ?hd (cs:=#[.int .i64 0,.int .i64 0]) (t:=23) ?hr ?_;(case hd=>rfl);(case hg=>rfl);(case hr=>first | (go_simp;done) | (go_simp;rfl))
           intro b5 hg o1 hbox hb
           have d7:=A_ hbox
           have e3:=gw hg HB
           have h1:=e3
           have c1:=nl hg b3
           have d3:=ng hg b3
           have d1:=nl hg b4
           have d5:=ng hg b4
           replace b3:=kB b3 hb
           replace b4:=kB b4 hb
           replace HB:=bB HB hb
           clear hb hbox hg
           refine hK.out _ _ ⟨(cT HB e6),(cT HB e5),(cT HB e8),(cT HB e7),(cT HB e9),(cT HB h0)⟩ (fun hHeld=>?_)
           clear hK K
           refine nq 13 ?_
           exact norm_ (by first | (simp only [putAll,Act.put,List.setIfInBounds_toArray,List.set_cons_zero,List.set_cons_succ];done) | (simp only [putAll,Act.put,List.setIfInBounds_toArray,List.set_cons_zero,List.set_cons_succ];rfl)) (m2 (b5) _ ⟨hHeld,(kb b3),(kb b4),(kb d7),e3.out,h1.out,c1.out,d3.out,d1.out,d5.out,(bl HB)⟩)
          skip
          refine box_step ?hg (N:=14) ?hd (cs:=#[.int .i64 0,.int .i64 0]) (t:=23) ?hr ?_;(case hd=>rfl);(case hg=>rfl);(case hr=>first | (go_simp;done) | (go_simp;rfl))
          intro b6 hg o1 hbox hb
          have d8:=A_ hbox
          have e4:=gw hg HB
          have h2:=e4
          have d0:=nl hg b3
          have d4:=ng hg b3
          have d2:=nl hg b4
          have d6:=ng hg b4
          replace b3:=kB b3 hb
          replace b4:=kB b4 hb
          replace HB:=bB HB hb
          clear hb hbox hg
          refine hK.out _ _ ⟨(cT HB e6),(cT HB e5),(cT HB e8),(cT HB e7),(cT HB e9),(cT HB h0)⟩ (fun hHeld=>?_)
          clear hK K
          refine nq 14 ?_
          exact norm_ (by first | (simp only [putAll,Act.put,List.setIfInBounds_toArray,List.set_cons_zero,List.set_cons_succ];done) | (simp only [putAll,Act.put,List.setIfInBounds_toArray,List.set_cons_zero,List.set_cons_succ];rfl)) (m3 (b6) _ ⟨hHeld,(kb b3),(kb b4),(kb d8),e4.out,h2.out,d0.out,d4.out,d2.out,d6.out,(bl HB)⟩)
         skip
         rintro ⟨b5,b6⟩ o1 ⟨hS_,i1,i2,i3,j9,l5,l6,l7,l8,l9,m0,m7,m8,m9,n0,n1,n2,n3,n4,n5⟩
         have d7:Aside0 (o1.heap[b5]? = some (.cells #[.int .i64 0,.int .i64 0] 23 (0,0))):=⟨i3⟩
         have d8:Aside0 (o1.heap[b6]? = some (.cells #[.int .i64 0,.int .i64 0] 23 (0,0))):=⟨j9⟩
         have e3:Aside0 (w.heap.size ≤ b5):=⟨l5⟩
         have h1:Aside0 (w.heap.size ≤ b5):=⟨l6⟩
         have c1:Aside0 (b7 ≠ b5):=⟨l7⟩
         have d3:Aside0 (b5 ≠ b7):=⟨l8⟩
         have d1:Aside0 (b8 ≠ b5):=⟨l9⟩
         have d5:Aside0 (b5 ≠ b8):=⟨m0⟩
         have e1:Aside0 (b6 ≠ b5):=⟨m7⟩
         have e2:Aside0 (b5 ≠ b6):=⟨m8⟩
         have e4:Aside0 (w.heap.size ≤ b6):=⟨m9⟩
         have h2:Aside0 (w.heap.size ≤ b6):=⟨n0⟩
         have d0:Aside0 (b7 ≠ b6):=⟨n1⟩
         have d4:Aside0 (b6 ≠ b7):=⟨n2⟩
         have d2:Aside0 (b8 ≠ b6):=⟨n3⟩
         have d6:Aside0 (b6 ≠ b8):=⟨n4⟩
         replace b3:Aside0 (o1.heap[b7]? = some (.cells #[.int .i64 e0,.int .i64 d9] 51 (0,0))):=⟨i1⟩
         replace b4:Aside0 (o1.heap[b8]? = some (.cells #[.slice (some b9) l0.length c0,.int .i64 a1] 94 (0,0))):=⟨i2⟩
         replace HB:Aside0 (Below w.heap.size w o1):=⟨n5⟩
         clear i1 i2 i3 j9 l5 l6 l7 l8 l9 m0 m7 m8 m9 n0 n1 n2 n3 n4 n5
         have hHeld:o1.cell? (b2.add ((b0).toNat * 2)) = some (.int .i64 ((rd_T23 l2 b0).f0)) ∧ o1.cell? ⟨(b2.add ((b0).toNat * 2)).block,(b2.add ((b0).toNat * 2)).off + 1,none⟩ = some (.int .i64 ((rd_T23 l2 b0).f1)) ∧ o1.cell? (b2.add ((b1).toNat * 2)) = some (.int .i64 ((rd_T23 l2 b1).f0)) ∧ o1.cell? ⟨(b2.add ((b1).toNat * 2)).block,(b2.add ((b1).toNat * 2)).off + 1,none⟩ = some (.int .i64 ((rd_T23 l2 b1).f1)) ∧ o1.cell? (b9.add (b0).toNat) = some (.int .i64 (rd l0 b0)) ∧ o1.cell? (b9.add (b1).toNat) = some (.int .i64 (rd l0 b1)):=hS_
         refine norm_ (a':=?_) ?_ ?_
         rotate_left
         ·simp only [putAll,Act.put,List.setIfInBounds_toArray,List.set_cons_zero,List.set_cons_succ]
          rfl
         refine oq 17 60 6553599 HT_ (fun K hK=>?_)
         refine gq Try.func63 #[.agg #[.int .i64 h7,.int .i64 h8],.int .i64 (rd l0 b0),.int .i64 (rd l0 b1)] ?_
         with_reducible refine (shares_garment.calls k2 h7 h8 (rd l0 b0) (rd l0 b1) h3 h5 h4 h6 _ t2.out).mono ?_
         rintro e q3 ⟨rfl,hb⟩
         refine ⟨_,rfl,?_⟩
         replace b3:=kB b3 hb
         replace b4:=kB b4 hb
         replace d7:=kB d7 hb
         replace d8:=kB d8 hb
         replace HB:=bB HB hb
         (try clear hb)
         refine hK.out _ _ ⟨(cT HB e6),(cT HB e5),(cT HB e8),(cT HB e7),(cT HB e9),(cT HB h0)⟩ (fun hHeld=>?_)
         clear hK K
         refine nq 60 ?_
         refine pq 18 42 6815743 HT_ ?_
         refine pq 19 61 7340031 HT_ ?_
         refine pq 20 62 8388607 HT_ ?_
         exact norm_ (by first | (simp only [putAll,Act.put,List.setIfInBounds_toArray,List.set_cons_zero,List.set_cons_succ];done) | (simp only [putAll,Act.put,List.setIfInBounds_toArray,List.set_cons_zero,List.set_cons_succ];rfl)) (h9 (b5,b6) _ ⟨hHeld,(kb b3),(kb b4),(kb d7),(kb d8),e3.out,h1.out,c1.out,d3.out,d1.out,d5.out,e1.out,e2.out,e4.out,h2.out,d0.out,d4.out,d2.out,d6.out,(bl HB)⟩)
        skip
        rintro b6 o1 ⟨hS_,i1,i2,i3,j9,l5,l6,l7,l8,l9,m0⟩
        have d8:Aside0 (o1.heap[b6]? = some (.cells #[.int .i64 0,.int .i64 0] 23 (0,0))):=⟨i3⟩
        have e4:Aside0 (w.heap.size ≤ b6):=⟨j9⟩
        have h2:Aside0 (w.heap.size ≤ b6):=⟨l5⟩
        have d0:Aside0 (b7 ≠ b6):=⟨l6⟩
        have d4:Aside0 (b6 ≠ b7):=⟨l7⟩
        have d2:Aside0 (b8 ≠ b6):=⟨l8⟩
        have d6:Aside0 (b6 ≠ b8):=⟨l9⟩
        replace b3:Aside0 (o1.heap[b7]? = some (.cells #[.int .i64 e0,.int .i64 d9] 51 (0,0))):=⟨i1⟩
        replace b4:Aside0 (o1.heap[b8]? = some (.cells #[.slice (some b9) l0.length c0,.int .i64 a1] 94 (0,0))):=⟨i2⟩
        replace HB:Aside0 (Below w.heap.size w o1):=⟨m0⟩
        clear i1 i2 i3 j9 l5 l6 l7 l8 l9 m0
        have hHeld:o1.cell? (b2.add ((b0).toNat * 2)) = some (.int .i64 ((rd_T23 l2 b0).f0)) ∧ o1.cell? ⟨(b2.add ((b0).toNat * 2)).block,(b2.add ((b0).toNat * 2)).off + 1,none⟩ = some (.int .i64 ((rd_T23 l2 b0).f1)) ∧ o1.cell? (b2.add ((b1).toNat * 2)) = some (.int .i64 ((rd_T23 l2 b1).f0)) ∧ o1.cell? ⟨(b2.add ((b1).toNat * 2)).block,(b2.add ((b1).toNat * 2)).off + 1,none⟩ = some (.int .i64 ((rd_T23 l2 b1).f1)) ∧ o1.cell? (b9.add (b0).toNat) = some (.int .i64 (rd l0 b0)) ∧ o1.cell? (b9.add (b1).toNat) = some (.int .i64 (rd l0 b1)):=hS_
        refine norm_ (a':=?_) ?_ ?_
        rotate_left
        ·simp only [putAll,Act.put,List.setIfInBounds_toArray,List.set_cons_zero,List.set_cons_succ]
         rfl
        refine oq 21 13 8388607 HT_ (fun K hK=>?_)
        refine box_step ?hg (N:=13) ?hd (cs:=#[.int .i64 0,.int .i64 0]) (t:=23) ?hr ?_;(case hd=>rfl);(case hg=>rfl);(case hr=>first | (go_simp;done) | (go_simp;rfl))
        intro b5 hg q3 hbox hb
        have d7:=A_ hbox
        have e3:=gw hg HB
        have h1:=e3
        have c1:=nl hg b3
        have d3:=ng hg b3
        have d1:=nl hg b4
        have d5:=ng hg b4
        have e1:=nl hg d8
        have e2:=ng hg d8
        replace b3:=kB b3 hb
        replace b4:=kB b4 hb
        replace d8:=kB d8 hb
        replace HB:=bB HB hb
        clear hb hbox hg
        refine hK.out _ _ ⟨(cT HB e6),(cT HB e5),(cT HB e8),(cT HB e7),(cT HB e9),(cT HB h0)⟩ (fun hHeld=>?_)
        clear hK K
        refine nq 13 ?_
        exact norm_ (by first | (simp only [putAll,Act.put,List.setIfInBounds_toArray,List.set_cons_zero,List.set_cons_succ];done) | (simp only [putAll,Act.put,List.setIfInBounds_toArray,List.set_cons_zero,List.set_cons_succ];rfl)) (h9 (b5,b6) _ ⟨hHeld,(kb b3),(kb b4),(kb d7),(kb d8),e3.out,h1.out,c1.out,d3.out,d1.out,d5.out,e1.out,e2.out,e4.out,h2.out,d0.out,d4.out,d2.out,d6.out,(bl HB)⟩)
       skip
       rintro b5 o1 ⟨hS_,i1,i2,i3,j9,l5,l6,l7,l8,l9,m0⟩
       have d7:Aside0 (o1.heap[b5]? = some (.cells #[.int .i64 0,.int .i64 0] 23 (0,0))):=⟨i3⟩
       have e3:Aside0 (w.heap.size ≤ b5):=⟨j9⟩
       have h1:Aside0 (w.heap.size ≤ b5):=⟨l5⟩
       have c1:Aside0 (b7 ≠ b5):=⟨l6⟩
       have d3:Aside0 (b5 ≠ b7):=⟨l7⟩
       have d1:Aside0 (b8 ≠ b5):=⟨l8⟩
       have d5:Aside0 (b5 ≠ b8):=⟨l9⟩
       replace b3:Aside0 (o1.heap[b7]? = some (.cells #[.int .i64 e0,.int .i64 d9] 51 (0,0))):=⟨i1⟩
       replace b4:Aside0 (o1.heap[b8]? = some (.cells #[.slice (some b9) l0.length c0,.int .i64 a1] 94 (0,0))):=⟨i2⟩
       replace HB:Aside0 (Below w.heap.size w o1):=⟨m0⟩
       clear i1 i2 i3 j9 l5 l6 l7 l8 l9 m0
       have hHeld:o1.cell? (b2.add ((b0).toNat * 2)) = some (.int .i64 ((rd_T23 l2 b0).f0)) ∧ o1.cell? ⟨(b2.add ((b0).toNat * 2)).block,(b2.add ((b0).toNat * 2)).off + 1,none⟩ = some (.int .i64 ((rd_T23 l2 b0).f1)) ∧ o1.cell? (b2.add ((b1).toNat * 2)) = some (.int .i64 ((rd_T23 l2 b1).f0)) ∧ o1.cell? ⟨(b2.add ((b1).toNat * 2)).block,(b2.add ((b1).toNat * 2)).off + 1,none⟩ = some (.int .i64 ((rd_T23 l2 b1).f1)) ∧ o1.cell? (b9.add (b0).toNat) = some (.int .i64 (rd l0 b0)) ∧ o1.cell? (b9.add (b1).toNat) = some (.int .i64 (rd l0 b1)):=hS_
       refine norm_ (a':=?_) ?_ ?_
       rotate_left
       ·simp only [putAll,Act.put,List.setIfInBounds_toArray,List.set_cons_zero,List.set_cons_succ]
        rfl
       refine oq 22 14 8388607 HT_ (fun K hK=>?_)
       refine box_step ?hg (N:=14) ?hd (cs:=#[.int .i64 0,.int .i64 0]) (t:=23) ?hr ?_;(case hd=>rfl);(case hg=>rfl);(case hr=>first | (go_simp;done) | (go_simp;rfl))
       intro b6 hg q3 hbox hb
       have d8:=A_ hbox
       have e4:=gw hg HB
       have h2:=e4
       have d0:=nl hg b3
       have d4:=ng hg b3
       have d2:=nl hg b4
       have d6:=ng hg b4
       have e2:=nl hg d7
       have e1:=ng hg d7
       replace b3:=kB b3 hb
       replace b4:=kB b4 hb
       replace d7:=kB d7 hb
       replace HB:=bB HB hb
       clear hb hbox hg
       refine hK.out _ _ ⟨(cT HB e6),(cT HB e5),(cT HB e8),(cT HB e7),(cT HB e9),(cT HB h0)⟩ (fun hHeld=>?_)
       clear hK K
       refine nq 14 ?_
       exact norm_ (by first | (simp only [putAll,Act.put,List.setIfInBounds_toArray,List.set_cons_zero,List.set_cons_succ];done) | (simp only [putAll,Act.put,List.setIfInBounds_toArray,List.set_cons_zero,List.set_cons_succ];rfl)) (h9 (b5,b6) _ ⟨hHeld,(kb b3),(kb b4),(kb d7),(kb d8),e3.out,h1.out,c1.out,d3.out,d1.out,d5.out,e1.out,e2.out,e4.out,h2.out,d0.out,d4.out,d2.out,d6.out,(bl HB)⟩)
      rintro ⟨b5,b6⟩ q3 ⟨hS_,i1,i2,i3,j9,l5,l6,l7,l8,l9,m0,m7,m8,m9,n0,n1,n2,n3,n4,n5⟩
      have d7:Aside0 (q3.heap[b5]? = some (.cells #[.int .i64 0,.int .i64 0] 23 (0,0))):=⟨i3⟩
      have d8:Aside0 (q3.heap[b6]? = some (.cells #[.int .i64 0,.int .i64 0] 23 (0,0))):=⟨j9⟩
      have e3:Aside0 (w.heap.size ≤ b5):=⟨l5⟩
      have h1:Aside0 (w.heap.size ≤ b5):=⟨l6⟩
      have c1:Aside0 (b7 ≠ b5):=⟨l7⟩
      have d3:Aside0 (b5 ≠ b7):=⟨l8⟩
      have d1:Aside0 (b8 ≠ b5):=⟨l9⟩
      have d5:Aside0 (b5 ≠ b8):=⟨m0⟩
      have e1:Aside0 (b6 ≠ b5):=⟨m7⟩
      have e2:Aside0 (b5 ≠ b6):=⟨m8⟩
      have e4:Aside0 (w.heap.size ≤ b6):=⟨m9⟩
      have h2:Aside0 (w.heap.size ≤ b6):=⟨n0⟩
      have d0:Aside0 (b7 ≠ b6):=⟨n1⟩
      have d4:Aside0 (b6 ≠ b7):=⟨n2⟩
      have d2:Aside0 (b8 ≠ b6):=⟨n3⟩
      have d6:Aside0 (b6 ≠ b8):=⟨n4⟩
      replace b3:Aside0 (q3.heap[b7]? = some (.cells #[.int .i64 e0,.int .i64 d9] 51 (0,0))):=⟨i1⟩
      replace b4:Aside0 (q3.heap[b8]? = some (.cells #[.slice (some b9) l0.length c0,.int .i64 a1] 94 (0,0))):=⟨i2⟩
      replace HB:Aside0 (Below w.heap.size w q3):=⟨n5⟩
      clear i1 i2 i3 j9 l5 l6 l7 l8 l9 m0 m7 m8 m9 n0 n1 n2 n3 n4 n5
      have hHeld:q3.cell? (b2.add ((b0).toNat * 2)) = some (.int .i64 ((rd_T23 l2 b0).f0)) ∧ q3.cell? ⟨(b2.add ((b0).toNat * 2)).block,(b2.add ((b0).toNat * 2)).off + 1,none⟩ = some (.int .i64 ((rd_T23 l2 b0).f1)) ∧ q3.cell? (b2.add ((b1).toNat * 2)) = some (.int .i64 ((rd_T23 l2 b1).f0)) ∧ q3.cell? ⟨(b2.add ((b1).toNat * 2)).block,(b2.add ((b1).toNat * 2)).off + 1,none⟩ = some (.int .i64 ((rd_T23 l2 b1).f1)) ∧ q3.cell? (b9.add (b0).toNat) = some (.int .i64 (rd l0 b0)) ∧ q3.cell? (b9.add (b1).toNat) = some (.int .i64 (rd l0 b1)):=hS_
      refine norm_ (a':=?_) ?_ ?_
      rotate_left
      ·simp only [putAll,Act.put,List.setIfInBounds_toArray,List.set_cons_zero,List.set_cons_succ]
       rfl
      refine one_ (i:=23) (N:=none) (ba 25 16777215) rfl rfl (one_of HT_.out (by kernel_rfl)) (by decide) (fun K hK=>?_)
      have S4:q3.cell? ⟨b5,0,none⟩ = some (.int .i64 0):=cz d7 0
      have P1:=blk_frozen d7.out 0
      have E1:=c1.out
      have E2:=d1.out
      have E3:=e1.out
      have E4:=d3.out
      have E5:=d5.out
      have E6:=e2.out
      have S5:q3.cell? ⟨b5,1,none⟩ = some (.int .i64 0):=cz d7 1
      have P2:=blk_frozen d7.out 1
      have E7:=c1.out
      have E8:=d1.out
      have E9:=e1.out
      have F0:=d3.out
      have F1:=d5.out
      have F2:=e2.out
      refine skip_ (w1:=?_) (by rfl) rfl ?_ ?_
      rotate_left
      ·go_simp
       rfl
      refine hK.out _ _ ⟨((cf9 e6 e3).trans (((cf9 e6 e3).trans (hHeld.1)))),((cf9 e5 e3).trans (((cf9 e5 e3).trans (hHeld.2.1)))),((cf9 e8 e3).trans (((cf9 e8 e3).trans (hHeld.2.2.1)))),((cf9 e7 e3).trans (((cf9 e7 e3).trans (hHeld.2.2.2.1)))),((cf9 e9 e3).trans (((cf9 e9 e3).trans (hHeld.2.2.2.2.1)))),((cf9 h0 e3).trans (((cf9 h0 e3).trans (hHeld.2.2.2.2.2))))⟩ (fun hHeld=>?_)
      clear hK K
      refine one_ (i:=24) (N:=none) (ba 25 33554431) rfl rfl (one_of HT_.out (by kernel_rfl)) (by decide) (fun K hK=>?_)
      have S6:q3.cell? ⟨b6,0,none⟩ = some (.int .i64 0):=cz d8 0
      have P3:=blk_frozen d8.out 0
      have F3:=d0.out
      have F4:=d2.out
      have F5:=e2.out
      have F6:=d4.out
      have F7:=d6.out
      have F8:=e1.out
      have S7:q3.cell? ⟨b6,1,none⟩ = some (.int .i64 0):=cz d8 1
      have P4:=blk_frozen d8.out 1
      have F9:=d0.out
      have G0:=d2.out
      have G1:=e2.out
      have G2:=d4.out
      have G3:=d6.out
      have G4:=e1.out
      refine skip_ (w1:=?_) (by rfl) rfl ?_ ?_
      rotate_left
      ·go_simp
       rfl
      refine hK.out _ _ ⟨((cf9 e6 e4).trans (((cf9 e6 e4).trans (hHeld.1)))),((cf9 e5 e4).trans (((cf9 e5 e4).trans (hHeld.2.1)))),((cf9 e8 e4).trans (((cf9 e8 e4).trans (hHeld.2.2.1)))),((cf9 e7 e4).trans (((cf9 e7 e4).trans (hHeld.2.2.2.1)))),((cf9 e9 e4).trans (((cf9 e9 e4).trans (hHeld.2.2.2.2.1)))),((cf9 h0 e4).trans (((cf9 h0 e4).trans (hHeld.2.2.2.2.2))))⟩ (fun hHeld=>?_)
      clear hK K
      refine done_ (done_of HT_.out (by kernel_rfl)) ?_
      try go_wp2
      have x3:Aside0 (((((q3.setCell ⟨b5,0,none⟩ (.int .i64 h3)).setCell ⟨b5,1,none⟩ (.int .i64 h5)).setCell ⟨b6,0,none⟩ (.int .i64 h4)).setCell ⟨b6,1,none⟩ (.int .i64 h6)).heap[b7]? = some (.cells #[.int .i64 e0,.int .i64 d9] 51 (0,0))):=⟨by (with_reducible repeat (first | refine blk_drewN ?_ _ | refine blk_drew ?_ | refine blk_alloc ?_ _));refine blk_far ?_ d0.out _;(with_reducible repeat (first | refine blk_drewN ?_ _ | refine blk_drew ?_ | refine blk_alloc ?_ _));refine blk_far ?_ d0.out _;(with_reducible repeat (first | refine blk_drewN ?_ _ | refine blk_drew ?_ | refine blk_alloc ?_ _));refine blk_far ?_ c1.out _;(with_reducible repeat (first | refine blk_drewN ?_ _ | refine blk_drew ?_ | refine blk_alloc ?_ _));refine blk_far ?_ c1.out _;(with_reducible repeat (first | refine blk_drewN ?_ _ | refine blk_drew ?_ | refine blk_alloc ?_ _));exact b3.out⟩
      have x4:Aside0 (((((q3.setCell ⟨b5,0,none⟩ (.int .i64 h3)).setCell ⟨b5,1,none⟩ (.int .i64 h5)).setCell ⟨b6,0,none⟩ (.int .i64 h4)).setCell ⟨b6,1,none⟩ (.int .i64 h6)).heap[b8]? = some (.cells #[.slice (some b9) l0.length c0,.int .i64 a1] 94 (0,0))):=⟨by (with_reducible repeat (first | refine blk_drewN ?_ _ | refine blk_drew ?_ | refine blk_alloc ?_ _));refine blk_far ?_ d2.out _;(with_reducible repeat (first | refine blk_drewN ?_ _ | refine blk_drew ?_ | refine blk_alloc ?_ _));refine blk_far ?_ d2.out _;(with_reducible repeat (first | refine blk_drewN ?_ _ | refine blk_drew ?_ | refine blk_alloc ?_ _));refine blk_far ?_ d1.out _;(with_reducible repeat (first | refine blk_drewN ?_ _ | refine blk_drew ?_ | refine blk_alloc ?_ _));refine blk_far ?_ d1.out _;(with_reducible repeat (first | refine blk_drewN ?_ _ | refine blk_drew ?_ | refine blk_alloc ?_ _));exact b4.out⟩
      have x5:Aside0 (((((q3.setCell ⟨b5,0,none⟩ (.int .i64 h3)).setCell ⟨b5,1,none⟩ (.int .i64 h5)).setCell ⟨b6,0,none⟩ (.int .i64 h4)).setCell ⟨b6,1,none⟩ (.int .i64 h6)).heap[b5]? = some (.cells #[.int .i64 h3,.int .i64 h5] 23 (0,0))):=⟨by (with_reducible repeat (first | refine blk_drewN ?_ _ | refine blk_drew ?_ | refine blk_alloc ?_ _));refine blk_far ?_ e2.out _;(with_reducible repeat (first | refine blk_drewN ?_ _ | refine blk_drew ?_ | refine blk_alloc ?_ _));refine blk_far ?_ e2.out _;(with_reducible repeat (first | refine blk_drewN ?_ _ | refine blk_drew ?_ | refine blk_alloc ?_ _));refine blk_put (cs:=#[.int .i64 h3,.int .i64 0]) ?_ 1 _ rfl;(with_reducible repeat (first | refine blk_drewN ?_ _ | refine blk_drew ?_ | refine blk_alloc ?_ _));refine blk_put (cs:=#[.int .i64 0,.int .i64 0]) ?_ 0 _ rfl;(with_reducible repeat (first | refine blk_drewN ?_ _ | refine blk_drew ?_ | refine blk_alloc ?_ _));exact d7.out⟩
      have x6:Aside0 (((((q3.setCell ⟨b5,0,none⟩ (.int .i64 h3)).setCell ⟨b5,1,none⟩ (.int .i64 h5)).setCell ⟨b6,0,none⟩ (.int .i64 h4)).setCell ⟨b6,1,none⟩ (.int .i64 h6)).heap[b6]? = some (.cells #[.int .i64 h4,.int .i64 h6] 23 (0,0))):=⟨by (with_reducible repeat (first | refine blk_drewN ?_ _ | refine blk_drew ?_ | refine blk_alloc ?_ _));refine blk_put (cs:=#[.int .i64 h4,.int .i64 0]) ?_ 1 _ rfl;(with_reducible repeat (first | refine blk_drewN ?_ _ | refine blk_drew ?_ | refine blk_alloc ?_ _));refine blk_put (cs:=#[.int .i64 0,.int .i64 0]) ?_ 0 _ rfl;(with_reducible repeat (first | refine blk_drewN ?_ _ | refine blk_drew ?_ | refine blk_alloc ?_ _));refine blk_far ?_ e1.out _;(with_reducible repeat (first | refine blk_drewN ?_ _ | refine blk_drew ?_ | refine blk_alloc ?_ _));refine blk_far ?_ e1.out _;(with_reducible repeat (first | refine blk_drewN ?_ _ | refine blk_drew ?_ | refine blk_alloc ?_ _));exact d8.out⟩
      have x7:Aside0 (Below w.heap.size w ((((q3.setCell ⟨b5,0,none⟩ (.int .i64 h3)).setCell ⟨b5,1,none⟩ (.int .i64 h5)).setCell ⟨b6,0,none⟩ (.int .i64 h4)).setCell ⟨b6,1,none⟩ (.int .i64 h6))):=⟨bl HB⟩
      generalize ((((q3.setCell ⟨b5,0,none⟩ (.int .i64 h3)).setCell ⟨b5,1,none⟩ (.int .i64 h5)).setCell ⟨b6,0,none⟩ (.int .i64 h4)).setCell ⟨b6,1,none⟩ (.int .i64 h6)) = S8 at x3 x4 x5 x6 x7 ⊢
      have b3:=x3
      have b4:=x4
      have d7:=x5
      have d8:=x6
      have HB:=x7
      clear x3 x4 x5 x6 x7
      replace b3:=kD b3
      replace b4:=kD b4
      replace d7:=kD d7
      replace d8:=kD d8
      replace HB:=bD HB
      have p5:0 ≤ (b0:Int):=oa_
      have p6:b0 < (l2.length:Int):=oa_
      obtain ⟨r0,s7,j5,j7⟩:=at_T23 t0.out b0 p5 p6
      have p7:=j7
      have p8:=j5
      obtain rfl:b2 = r0:=(by injection s7)
      replace j5:=cT HB j5
      replace j7:=cT HB j7
      replace p5:=eq_true p5
      replace p6:=eq_true p6
      refine start_ (n:=14) (S:=fun w'=>w'.cell? ⟨b5,0,none⟩ = some (.int .i64 h3) ∧ w'.cell? ⟨b5,1,none⟩ = some (.int .i64 h5) ∧ w'.cell? (b2.add ((b0).toNat * 2)) = some (.int .i64 ((rd_T23 l2 b0).f0)) ∧ w'.cell? ⟨(b2.add ((b0).toNat * 2)).block,(b2.add ((b0).toNat * 2)).off + 1,none⟩ = some (.int .i64 ((rd_T23 l2 b0).f1))) (ds:=[]) (ba 14 0) (by kernel_rfl) rfl rfl ⟨cz d7 0,cz d7 1,(cT HB p8),(cT HB p7)⟩ (fun hHeld=>?_);refine with_tabW shares_Agrees.tab13 shares_Agrees.bits13 (fun HT_ HW_=>?_)
      generalize S8.drew = P5 at b3 b4 d7 d8 HB j5 j7 hHeld ⊢
      refine pq 1 64 2 HT_ ?_
      refine pq 2 65 6 HT_ ?_
      refine pq 3 66 14 HT_ ?_
      refine tq 0 63 15 HT_ HW_ hHeld ?_
      refine tq 4 67 31 HT_ HW_ hHeld ?_
      refine pq 5 68 63 HT_ ?_
      refine pq 6 69 127 HT_ ?_
      refine pu 7 70 255 HT_ ?_
      refine pu 8 71 511 HT_ ?_
      refine pu 9 72 1023 HT_ ?_
      refine pu 10 73 2047 HT_ ?_
      refine pu 11 74 4095 HT_ ?_
      refine pu 12 75 8191 HT_ ?_
      refine pq 13 76 16383 HT_ ?_
      refine done_ (done_of HT_.out (by kernel_rfl)) ?_
      have P6:=i0.out
      have P7:=m1.out
      have P8:=c1.out
      have P9:=d3.out
      have Q0:=d0.out
      have Q1:=d4.out
      have G5:P5.cell? ⟨b7,0,none⟩ = some (.int .i64 e0):=cz b3 0
      have G6:P5.cell? ⟨b7,1,none⟩ = some (.int .i64 d9):=cz b3 1
      have G7:=blk_frozen b3.out 0
      have G8:=blk_frozen b3.out 1
      try go_wp2
      refine bodyPost_ret (results_ctt rfl _ _ b7 51 #[.int .i64 b0,.int .i64 b1] (0,0) _ rfl (by (with_reducible repeat (first | refine blk_drewN ?_ _ | refine blk_drew ?_ | refine blk_alloc ?_ _));refine blk_put (cs:=#[.int .i64 b0,.int .i64 d9]) ?_ 1 _ rfl;(with_reducible repeat (first | refine blk_drewN ?_ _ | refine blk_drew ?_ | refine blk_alloc ?_ _));refine blk_put (cs:=#[.int .i64 e0,.int .i64 d9]) ?_ 0 _ rfl;(with_reducible repeat (first | refine blk_drewN ?_ _ | refine blk_drew ?_ | refine blk_alloc ?_ _));exact b3.out) Try.underlying51 rfl (by kernel_rfl)) rfl ?_
      exact ⟨by first | rfl | (simp [errW_none,errW_some] <;> rfl) | (simp [*,errW_none,errW_some] <;> rfl),bl HB⟩
     rw [if_neg z0] at H
     have z6:(!(h3 == ((rd_T23 l2 b0).f0)) || (!(h5 == ((rd_T23 l2 b0).f1)))) = false:=by simpa using z0
     clear z0
     by_cases z1:(!(h4 == ((rd_T23 l2 b1).f0)) || (!(h6 == ((rd_T23 l2 b1).f1)))) = true
     case neg =>
      rw [if_neg z1] at H
      have z8:(!(h4 == ((rd_T23 l2 b1).f0)) || (!(h6 == ((rd_T23 l2 b1).f1)))) = false:=by simpa using z1
      clear z1
      have H':=A_ H
      clear H
      try go_wp2
      replace b3:=kD b3
      replace b4:=kD b4
      replace HB:=bD HB
      have o5:0 ≤ (b0:Int):=oa_
      have o6:b0 < (l2.length:Int):=oa_
      obtain ⟨b2,s3,i4,i5⟩:=at_T23 t0.out b0 o5 o6
      have e5:=i5
      have e6:=i4
      cases s3
      replace i4:=cT HB i4
      replace i5:=cT HB i5
      replace o5:=eq_true o5
      replace o6:=eq_true o6
      have o7:0 ≤ (b1:Int):=oa_
      have o8:b1 < (l2.length:Int):=oa_
      obtain ⟨q7,s4,i6,i7⟩:=at_T23 t0.out b1 o7 o8
      have e7:=i7
      have e8:=i6
      obtain rfl:b2 = q7:=(by injection s4)
      replace i6:=cT HB i6
      replace i7:=cT HB i7
      replace o7:=eq_true o7
      replace o8:=eq_true o8
      have o9:0 ≤ (b0:Int):=oa_
      have p0:b0 < (l0.length:Int):=oa_
      obtain ⟨b9,s5,i8⟩:=Kd.at_int t6.out b0 o9 p0
      have e9:=i8
      cases s5
      replace i8:=cT HB i8
      replace o9:=eq_true o9
      replace p0:=eq_true p0
      have p1:0 ≤ (b1:Int):=oa_
      have p2:b1 < (l0.length:Int):=oa_
      obtain ⟨q8,s6,i9⟩:=Kd.at_int t6.out b1 p1 p2
      have h0:=i9
      obtain rfl:b9 = q8:=(by injection s6)
      replace i9:=cT HB i9
      replace p1:=eq_true p1
      replace p2:=eq_true p2
      refine start_ (n:=25) (S:=fun w'=>w'.cell? (b2.add ((b0).toNat * 2)) = some (.int .i64 ((rd_T23 l2 b0).f0)) ∧ w'.cell? ⟨(b2.add ((b0).toNat * 2)).block,(b2.add ((b0).toNat * 2)).off + 1,none⟩ = some (.int .i64 ((rd_T23 l2 b0).f1)) ∧ w'.cell? (b2.add ((b1).toNat * 2)) = some (.int .i64 ((rd_T23 l2 b1).f0)) ∧ w'.cell? ⟨(b2.add ((b1).toNat * 2)).block,(b2.add ((b1).toNat * 2)).off + 1,none⟩ = some (.int .i64 ((rd_T23 l2 b1).f1)) ∧ w'.cell? (b9.add (b0).toNat) = some (.int .i64 (rd l0 b0)) ∧ w'.cell? (b9.add (b1).toNat) = some (.int .i64 (rd l0 b1))) (ds:=[]) (ba 25 0) (by kernel_rfl) rfl rfl ⟨(cT HB e6),(cT HB e5),(cT HB e8),(cT HB e7),(cT HB e9),(cT HB h0)⟩ (fun hHeld=>?_);refine with_tabW shares_Agrees.tab12 shares_Agrees.bits12 (fun HT_ HW_=>?_)
      generalize wr.drew = V4 at b3 b4 HB i4 i5 i6 i7 i8 i9 hHeld ⊢
      refine pq 0 43 1 HT_ ?_
      refine pq 1 44 3 HT_ ?_
      refine pq 2 45 7 HT_ ?_
      refine pq 4 47 23 HT_ ?_
      refine pq 5 48 55 HT_ ?_
      refine pq 6 49 119 HT_ ?_
      refine pq 9 52 631 HT_ ?_
      refine pq 10 53 1655 HT_ ?_
      refine pq 11 54 3703 HT_ ?_
      refine pq 13 56 11895 HT_ ?_
      refine pq 14 57 28279 HT_ ?_
      refine pq 15 58 61047 HT_ ?_
      refine tq 3 46 61055 HT_ HW_ hHeld ?_
      refine tq 7 50 61183 HT_ HW_ hHeld ?_
      refine tq 12 55 65279 HT_ HW_ hHeld ?_
      refine tq 16 59 130815 HT_ HW_ hHeld ?_
      refine join_ (σ:=Nat × Nat) 2 (ba 25 8388607) (fun s_=>[(51,.agg #[.int .i64 h7,.int .i64 h8]),(60,.tuple #[.agg #[.int .i64 h3,.int .i64 h5],.agg #[.int .i64 h4,.int .i64 h6]]),(13,.pointer (some ⟨s_.1,0,none⟩)),(14,.pointer (some ⟨s_.2,0,none⟩)),(42,.tuple #[.agg #[.int .i64 h3,.int .i64 h5],.agg #[.int .i64 h4,.int .i64 h6]]),(61,.agg #[.int .i64 h3,.int .i64 h5]),(62,.agg #[.int .i64 h4,.int .i64 h6])]) (fun s_ w'=>(w'.cell? (b2.add ((b0).toNat * 2)) = some (.int .i64 ((rd_T23 l2 b0).f0)) ∧ w'.cell? ⟨(b2.add ((b0).toNat * 2)).block,(b2.add ((b0).toNat * 2)).off + 1,none⟩ = some (.int .i64 ((rd_T23 l2 b0).f1)) ∧ w'.cell? (b2.add ((b1).toNat * 2)) = some (.int .i64 ((rd_T23 l2 b1).f0)) ∧ w'.cell? ⟨(b2.add ((b1).toNat * 2)).block,(b2.add ((b1).toNat * 2)).off + 1,none⟩ = some (.int .i64 ((rd_T23 l2 b1).f1)) ∧ w'.cell? (b9.add (b0).toNat) = some (.int .i64 (rd l0 b0)) ∧ w'.cell? (b9.add (b1).toNat) = some (.int .i64 (rd l0 b1))) ∧ (w'.heap[b7]? = some (.cells #[.int .i64 e0,.int .i64 d9] 51 (0,0))) ∧ (w'.heap[b8]? = some (.cells #[.slice (some b9) l0.length c0,.int .i64 a1] 94 (0,0))) ∧ (w'.heap[s_.1]? = some (.cells #[.int .i64 0,.int .i64 0] 23 (0,0))) ∧ (w'.heap[s_.2]? = some (.cells #[.int .i64 0,.int .i64 0] 23 (0,0))) ∧ (w.heap.size ≤ s_.1) ∧ (w.heap.size ≤ s_.1) ∧ (b7 ≠ s_.1) ∧ (s_.1 ≠ b7) ∧ (b8 ≠ s_.1) ∧ (s_.1 ≠ b8) ∧ (s_.2 ≠ s_.1) ∧ (s_.1 ≠ s_.2) ∧ (w.heap.size ≤ s_.2) ∧ (w.heap.size ≤ s_.2) ∧ (b7 ≠ s_.2) ∧ (s_.2 ≠ b7) ∧ (b8 ≠ s_.2) ∧ (s_.2 ≠ b8) ∧ (Below w.heap.size w w')) ?_ ?_
      rotate_left
      ·intro h9
       refine join_ (σ:=Nat) 3 (ba 25 4194303) (fun s_=>[(51,.agg #[.int .i64 h7,.int .i64 h8]),(60,.tuple #[.agg #[.int .i64 h3,.int .i64 h5],.agg #[.int .i64 h4,.int .i64 h6]]),(13,.pointer (some ⟨s_,0,none⟩)),(42,.tuple #[.agg #[.int .i64 h3,.int .i64 h5],.agg #[.int .i64 h4,.int .i64 h6]]),(61,.agg #[.int .i64 h3,.int .i64 h5]),(62,.agg #[.int .i64 h4,.int .i64 h6])]) (fun s_ w'=>(w'.cell? (b2.add ((b0).toNat * 2)) = some (.int .i64 ((rd_T23 l2 b0).f0)) ∧ w'.cell? ⟨(b2.add ((b0).toNat * 2)).block,(b2.add ((b0).toNat * 2)).off + 1,none⟩ = some (.int .i64 ((rd_T23 l2 b0).f1)) ∧ w'.cell? (b2.add ((b1).toNat * 2)) = some (.int .i64 ((rd_T23 l2 b1).f0)) ∧ w'.cell? ⟨(b2.add ((b1).toNat * 2)).block,(b2.add ((b1).toNat * 2)).off + 1,none⟩ = some (.int .i64 ((rd_T23 l2 b1).f1)) ∧ w'.cell? (b9.add (b0).toNat) = some (.int .i64 (rd l0 b0)) ∧ w'.cell? (b9.add (b1).toNat) = some (.int .i64 (rd l0 b1))) ∧ (w'.heap[b7]? = some (.cells #[.int .i64 e0,.int .i64 d9] 51 (0,0))) ∧ (w'.heap[b8]? = some (.cells #[.slice (some b9) l0.length c0,.int .i64 a1] 94 (0,0))) ∧ (w'.heap[s_]? = some (.cells #[.int .i64 0,.int .i64 0] 23 (0,0))) ∧ (w.heap.size ≤ s_) ∧ (w.heap.size ≤ s_) ∧ (b7 ≠ s_) ∧ (s_ ≠ b7) ∧ (b8 ≠ s_) ∧ (s_ ≠ b8) ∧ (Below w.heap.size w w')) ?_ ?_
       rotate_left
       ·intro m2
        refine join_ (σ:=Nat) 3 (ba 25 6291455) (fun s_=>[(51,.agg #[.int .i64 h7,.int .i64 h8]),(60,.tuple #[.agg #[.int .i64 h3,.int .i64 h5],.agg #[.int .i64 h4,.int .i64 h6]]),(14,.pointer (some ⟨s_,0,none⟩)),(42,.tuple #[.agg #[.int .i64 h3,.int .i64 h5],.agg #[.int .i64 h4,.int .i64 h6]]),(61,.agg #[.int .i64 h3,.int .i64 h5]),(62,.agg #[.int .i64 h4,.int .i64 h6])]) (fun s_ w'=>(w'.cell? (b2.add ((b0).toNat * 2)) = some (.int .i64 ((rd_T23 l2 b0).f0)) ∧ w'.cell? ⟨(b2.add ((b0).toNat * 2)).block,(b2.add ((b0).toNat * 2)).off + 1,none⟩ = some (.int .i64 ((rd_T23 l2 b0).f1)) ∧ w'.cell? (b2.add ((b1).toNat * 2)) = some (.int .i64 ((rd_T23 l2 b1).f0)) ∧ w'.cell? ⟨(b2.add ((b1).toNat * 2)).block,(b2.add ((b1).toNat * 2)).off + 1,none⟩ = some (.int .i64 ((rd_T23 l2 b1).f1)) ∧ w'.cell? (b9.add (b0).toNat) = some (.int .i64 (rd l0 b0)) ∧ w'.cell? (b9.add (b1).toNat) = some (.int .i64 (rd l0 b1))) ∧ (w'.heap[b7]? = some (.cells #[.int .i64 e0,.int .i64 d9] 51 (0,0))) ∧ (w'.heap[b8]? = some (.cells #[.slice (some b9) l0.length c0,.int .i64 a1] 94 (0,0))) ∧ (w'.heap[s_]? = some (.cells #[.int .i64 0,.int .i64 0] 23 (0,0))) ∧ (w.heap.size ≤ s_) ∧ (w.heap.size ≤ s_) ∧ (b7 ≠ s_) ∧ (s_ ≠ b7) ∧ (b8 ≠ s_) ∧ (s_ ≠ b8) ∧ (Below w.heap.size w w')) ?_ ?_
        rotate_left
        ·intro m3
         refine join_ (σ:=Nat × Nat) 6 (ba 25 6422527) (fun s_=>[(51,.agg #[.int .i64 h7,.int .i64 h8]),(13,.pointer (some ⟨s_.1,0,none⟩)),(14,.pointer (some ⟨s_.2,0,none⟩))]) (fun s_ w'=>(w'.cell? (b2.add ((b0).toNat * 2)) = some (.int .i64 ((rd_T23 l2 b0).f0)) ∧ w'.cell? ⟨(b2.add ((b0).toNat * 2)).block,(b2.add ((b0).toNat * 2)).off + 1,none⟩ = some (.int .i64 ((rd_T23 l2 b0).f1)) ∧ w'.cell? (b2.add ((b1).toNat * 2)) = some (.int .i64 ((rd_T23 l2 b1).f0)) ∧ w'.cell? ⟨(b2.add ((b1).toNat * 2)).block,(b2.add ((b1).toNat * 2)).off + 1,none⟩ = some (.int .i64 ((rd_T23 l2 b1).f1)) ∧ w'.cell? (b9.add (b0).toNat) = some (.int .i64 (rd l0 b0)) ∧ w'.cell? (b9.add (b1).toNat) = some (.int .i64 (rd l0 b1))) ∧ (w'.heap[b7]? = some (.cells #[.int .i64 e0,.int .i64 d9] 51 (0,0))) ∧ (w'.heap[b8]? = some (.cells #[.slice (some b9) l0.length c0,.int .i64 a1] 94 (0,0))) ∧ (w'.heap[s_.1]? = some (.cells #[.int .i64 0,.int .i64 0] 23 (0,0))) ∧ (w'.heap[s_.2]? = some (.cells #[.int .i64 0,.int .i64 0] 23 (0,0))) ∧ (w.heap.size ≤ s_.1) ∧ (w.heap.size ≤ s_.1) ∧ (b7 ≠ s_.1) ∧ (s_.1 ≠ b7) ∧ (b8 ≠ s_.1) ∧ (s_.1 ≠ b8) ∧ (s_.2 ≠ s_.1) ∧ (s_.1 ≠ s_.2) ∧ (w.heap.size ≤ s_.2) ∧ (w.heap.size ≤ s_.2) ∧ (b7 ≠ s_.2) ∧ (s_.2 ≠ b7) ∧ (b8 ≠ s_.2) ∧ (s_.2 ≠ b8) ∧ (Below w.heap.size w w')) ?_ ?_
         rotate_left
         ·intro j8
          refine join_ (σ:=Unit) 4 (ba 25 2097151) (fun s_=>[(51,.agg #[.int .i64 h7,.int .i64 h8]),(60,.tuple #[.agg #[.int .i64 h3,.int .i64 h5],.agg #[.int .i64 h4,.int .i64 h6]]),(42,.tuple #[.agg #[.int .i64 h3,.int .i64 h5],.agg #[.int .i64 h4,.int .i64 h6]]),(61,.agg #[.int .i64 h3,.int .i64 h5]),(62,.agg #[.int .i64 h4,.int .i64 h6])]) (fun s_ w'=>(w'.cell? (b2.add ((b0).toNat * 2)) = some (.int .i64 ((rd_T23 l2 b0).f0)) ∧ w'.cell? ⟨(b2.add ((b0).toNat * 2)).block,(b2.add ((b0).toNat * 2)).off + 1,none⟩ = some (.int .i64 ((rd_T23 l2 b0).f1)) ∧ w'.cell? (b2.add ((b1).toNat * 2)) = some (.int .i64 ((rd_T23 l2 b1).f0)) ∧ w'.cell? ⟨(b2.add ((b1).toNat * 2)).block,(b2.add ((b1).toNat * 2)).off + 1,none⟩ = some (.int .i64 ((rd_T23 l2 b1).f1)) ∧ w'.cell? (b9.add (b0).toNat) = some (.int .i64 (rd l0 b0)) ∧ w'.cell? (b9.add (b1).toNat) = some (.int .i64 (rd l0 b1))) ∧ (w'.heap[b7]? = some (.cells #[.int .i64 e0,.int .i64 d9] 51 (0,0))) ∧ (w'.heap[b8]? = some (.cells #[.slice (some b9) l0.length c0,.int .i64 a1] 94 (0,0))) ∧ (Below w.heap.size w w')) ?_ ?_
          rotate_left
          ·intro q9
           refine join_ (σ:=Nat) 7 (ba 25 2228223) (fun s_=>[(51,.agg #[.int .i64 h7,.int .i64 h8]),(13,.pointer (some ⟨s_,0,none⟩))]) (fun s_ w'=>(w'.cell? (b2.add ((b0).toNat * 2)) = some (.int .i64 ((rd_T23 l2 b0).f0)) ∧ w'.cell? ⟨(b2.add ((b0).toNat * 2)).block,(b2.add ((b0).toNat * 2)).off + 1,none⟩ = some (.int .i64 ((rd_T23 l2 b0).f1)) ∧ w'.cell? (b2.add ((b1).toNat * 2)) = some (.int .i64 ((rd_T23 l2 b1).f0)) ∧ w'.cell? ⟨(b2.add ((b1).toNat * 2)).block,(b2.add ((b1).toNat * 2)).off + 1,none⟩ = some (.int .i64 ((rd_T23 l2 b1).f1)) ∧ w'.cell? (b9.add (b0).toNat) = some (.int .i64 (rd l0 b0)) ∧ w'.cell? (b9.add (b1).toNat) = some (.int .i64 (rd l0 b1))) ∧ (w'.heap[b7]? = some (.cells #[.int .i64 e0,.int .i64 d9] 51 (0,0))) ∧ (w'.heap[b8]? = some (.cells #[.slice (some b9) l0.length c0,.int .i64 a1] 94 (0,0))) ∧ (w'.heap[s_]? = some (.cells #[.int .i64 0,.int .i64 0] 23 (0,0))) ∧ (w.heap.size ≤ s_) ∧ (w.heap.size ≤ s_) ∧ (b7 ≠ s_) ∧ (s_ ≠ b7) ∧ (b8 ≠ s_) ∧ (s_ ≠ b8) ∧ (Below w.heap.size w w')) ?_ ?_
           rotate_left
           ·intro p3
            refine join_ (σ:=Nat) 7 (ba 25 4325375) (fun s_=>[(51,.agg #[.int .i64 h7,.int .i64 h8]),(14,.pointer (some ⟨s_,0,none⟩))]) (fun s_ w'=>(w'.cell? (b2.add ((b0).toNat * 2)) = some (.int .i64 ((rd_T23 l2 b0).f0)) ∧ w'.cell? ⟨(b2.add ((b0).toNat * 2)).block,(b2.add ((b0).toNat * 2)).off + 1,none⟩ = some (.int .i64 ((rd_T23 l2 b0).f1)) ∧ w'.cell? (b2.add ((b1).toNat * 2)) = some (.int .i64 ((rd_T23 l2 b1).f0)) ∧ w'.cell? ⟨(b2.add ((b1).toNat * 2)).block,(b2.add ((b1).toNat * 2)).off + 1,none⟩ = some (.int .i64 ((rd_T23 l2 b1).f1)) ∧ w'.cell? (b9.add (b0).toNat) = some (.int .i64 (rd l0 b0)) ∧ w'.cell? (b9.add (b1).toNat) = some (.int .i64 (rd l0 b1))) ∧ (w'.heap[b7]? = some (.cells #[.int .i64 e0,.int .i64 d9] 51 (0,0))) ∧ (w'.heap[b8]? = some (.cells #[.slice (some b9) l0.length c0,.int .i64 a1] 94 (0,0))) ∧ (w'.heap[s_]? = some (.cells #[.int .i64 0,.int .i64 0] 23 (0,0))) ∧ (w.heap.size ≤ s_) ∧ (w.heap.size ≤ s_) ∧ (b7 ≠ s_) ∧ (s_ ≠ b7) ∧ (b8 ≠ s_) ∧ (s_ ≠ b8) ∧ (Below w.heap.size w w')) ?_ ?_
            rotate_left
            ·intro p4
             refine join_ (σ:=Nat × Nat) 7 (ba 25 6422271) (fun s_=>[(13,.pointer (some ⟨s_.1,0,none⟩)),(14,.pointer (some ⟨s_.2,0,none⟩))]) (fun s_ w'=>(w'.cell? (b2.add ((b0).toNat * 2)) = some (.int .i64 ((rd_T23 l2 b0).f0)) ∧ w'.cell? ⟨(b2.add ((b0).toNat * 2)).block,(b2.add ((b0).toNat * 2)).off + 1,none⟩ = some (.int .i64 ((rd_T23 l2 b0).f1)) ∧ w'.cell? (b2.add ((b1).toNat * 2)) = some (.int .i64 ((rd_T23 l2 b1).f0)) ∧ w'.cell? ⟨(b2.add ((b1).toNat * 2)).block,(b2.add ((b1).toNat * 2)).off + 1,none⟩ = some (.int .i64 ((rd_T23 l2 b1).f1)) ∧ w'.cell? (b9.add (b0).toNat) = some (.int .i64 (rd l0 b0)) ∧ w'.cell? (b9.add (b1).toNat) = some (.int .i64 (rd l0 b1))) ∧ (w'.heap[b7]? = some (.cells #[.int .i64 e0,.int .i64 d9] 51 (0,0))) ∧ (w'.heap[b8]? = some (.cells #[.slice (some b9) l0.length c0,.int .i64 a1] 94 (0,0))) ∧ (w'.heap[s_.1]? = some (.cells #[.int .i64 0,.int .i64 0] 23 (0,0))) ∧ (w'.heap[s_.2]? = some (.cells #[.int .i64 0,.int .i64 0] 23 (0,0))) ∧ (w.heap.size ≤ s_.1) ∧ (w.heap.size ≤ s_.1) ∧ (b7 ≠ s_.1) ∧ (s_.1 ≠ b7) ∧ (b8 ≠ s_.1) ∧ (s_.1 ≠ b8) ∧ (s_.2 ≠ s_.1) ∧ (s_.1 ≠ s_.2) ∧ (w.heap.size ≤ s_.2) ∧ (w.heap.size ≤ s_.2) ∧ (b7 ≠ s_.2) ∧ (s_.2 ≠ b7) ∧ (b8 ≠ s_.2) ∧ (s_.2 ≠ b8) ∧ (Below w.heap.size w w')) ?_ ?_
             rotate_left
             ·intro o0
              refine join_ (σ:=Unit) 8 (ba 25 131071) (fun s_=>[(51,.agg #[.int .i64 h7,.int .i64 h8])]) (fun s_ w'=>(w'.cell? (b2.add ((b0).toNat * 2)) = some (.int .i64 ((rd_T23 l2 b0).f0)) ∧ w'.cell? ⟨(b2.add ((b0).toNat * 2)).block,(b2.add ((b0).toNat * 2)).off + 1,none⟩ = some (.int .i64 ((rd_T23 l2 b0).f1)) ∧ w'.cell? (b2.add ((b1).toNat * 2)) = some (.int .i64 ((rd_T23 l2 b1).f0)) ∧ w'.cell? ⟨(b2.add ((b1).toNat * 2)).block,(b2.add ((b1).toNat * 2)).off + 1,none⟩ = some (.int .i64 ((rd_T23 l2 b1).f1)) ∧ w'.cell? (b9.add (b0).toNat) = some (.int .i64 (rd l0 b0)) ∧ w'.cell? (b9.add (b1).toNat) = some (.int .i64 (rd l0 b1))) ∧ (w'.heap[b7]? = some (.cells #[.int .i64 e0,.int .i64 d9] 51 (0,0))) ∧ (w'.heap[b8]? = some (.cells #[.slice (some b9) l0.length c0,.int .i64 a1] 94 (0,0))) ∧ (Below w.heap.size w w')) ?_ ?_
              rotate_left
              ·intro z7
               refine join_ (σ:=Nat) 8 (ba 25 2227967) (fun s_=>[(13,.pointer (some ⟨s_,0,none⟩))]) (fun s_ w'=>(w'.cell? (b2.add ((b0).toNat * 2)) = some (.int .i64 ((rd_T23 l2 b0).f0)) ∧ w'.cell? ⟨(b2.add ((b0).toNat * 2)).block,(b2.add ((b0).toNat * 2)).off + 1,none⟩ = some (.int .i64 ((rd_T23 l2 b0).f1)) ∧ w'.cell? (b2.add ((b1).toNat * 2)) = some (.int .i64 ((rd_T23 l2 b1).f0)) ∧ w'.cell? ⟨(b2.add ((b1).toNat * 2)).block,(b2.add ((b1).toNat * 2)).off + 1,none⟩ = some (.int .i64 ((rd_T23 l2 b1).f1)) ∧ w'.cell? (b9.add (b0).toNat) = some (.int .i64 (rd l0 b0)) ∧ w'.cell? (b9.add (b1).toNat) = some (.int .i64 (rd l0 b1))) ∧ (w'.heap[b7]? = some (.cells #[.int .i64 e0,.int .i64 d9] 51 (0,0))) ∧ (w'.heap[b8]? = some (.cells #[.slice (some b9) l0.length c0,.int .i64 a1] 94 (0,0))) ∧ (w'.heap[s_]? = some (.cells #[.int .i64 0,.int .i64 0] 23 (0,0))) ∧ (w.heap.size ≤ s_) ∧ (w.heap.size ≤ s_) ∧ (b7 ≠ s_) ∧ (s_ ≠ b7) ∧ (b8 ≠ s_) ∧ (s_ ≠ b8) ∧ (Below w.heap.size w w')) ?_ ?_
               rotate_left
               ·intro t9
                refine join_ (σ:=Nat) 8 (ba 25 4325119) (fun s_=>[(14,.pointer (some ⟨s_,0,none⟩))]) (fun s_ w'=>(w'.cell? (b2.add ((b0).toNat * 2)) = some (.int .i64 ((rd_T23 l2 b0).f0)) ∧ w'.cell? ⟨(b2.add ((b0).toNat * 2)).block,(b2.add ((b0).toNat * 2)).off + 1,none⟩ = some (.int .i64 ((rd_T23 l2 b0).f1)) ∧ w'.cell? (b2.add ((b1).toNat * 2)) = some (.int .i64 ((rd_T23 l2 b1).f0)) ∧ w'.cell? ⟨(b2.add ((b1).toNat * 2)).block,(b2.add ((b1).toNat * 2)).off + 1,none⟩ = some (.int .i64 ((rd_T23 l2 b1).f1)) ∧ w'.cell? (b9.add (b0).toNat) = some (.int .i64 (rd l0 b0)) ∧ w'.cell? (b9.add (b1).toNat) = some (.int .i64 (rd l0 b1))) ∧ (w'.heap[b7]? = some (.cells #[.int .i64 e0,.int .i64 d9] 51 (0,0))) ∧ (w'.heap[b8]? = some (.cells #[.slice (some b9) l0.length c0,.int .i64 a1] 94 (0,0))) ∧ (w'.heap[s_]? = some (.cells #[.int .i64 0,.int .i64 0] 23 (0,0))) ∧ (w.heap.size ≤ s_) ∧ (w.heap.size ≤ s_) ∧ (b7 ≠ s_) ∧ (s_ ≠ b7) ∧ (b8 ≠ s_) ∧ (s_ ≠ b8) ∧ (Below w.heap.size w w')) ?_ ?_
                rotate_left
                ·intro x1
                 refine three_ (i:=8) (j:=21) (k:=22) (Ni:=some 51) (Nj:=some 13) (Nk:=some 14) (ba 25 131071) (ba 25 2227967) (ba 25 4325119) rfl rfl rfl rfl rfl rfl (three_of HT_.out (by kernel_rfl)) (by decide) (by decide) (by decide) (fun K hK=>?_) (fun K hK=>?_) (fun K hK=>?_)
                 ·skip
                  refine gq Try.func88 #[.agg #[.int .i64 ((rd_T23 l2 b0).f0),.int .i64 ((rd_T23 l2 b0).f1)],.agg #[.int .i64 ((rd_T23 l2 b1).f0),.int .i64 ((rd_T23 l2 b1).f1)]] ?_
                  with_reducible refine (shares_add.calls k2 ((rd_T23 l2 b0).f0) ((rd_T23 l2 b0).f1) ((rd_T23 l2 b1).f0) ((rd_T23 l2 b1).f1) h7 h8 _ t1.out).mono ?_
                  rintro e Q2 ⟨rfl,hb⟩
                  refine ⟨_,rfl,?_⟩
                  replace b3:=kB b3 hb
                  replace b4:=kB b4 hb
                  replace HB:=bB HB hb
                  (try clear hb)
                  refine hK.out _ _ ⟨(cT HB e6),(cT HB e5),(cT HB e8),(cT HB e7),(cT HB e9),(cT HB h0)⟩ (fun hHeld=>?_)
                  clear hK K
                  refine nq 51 ?_
                  exact norm_ (by first | (simp only [putAll,Act.put,List.setIfInBounds_toArray,List.set_cons_zero,List.set_cons_succ];done) | (simp only [putAll,Act.put,List.setIfInBounds_toArray,List.set_cons_zero,List.set_cons_succ];rfl)) (z7 () _ ⟨hHeld,(kb b3),(kb b4),(bl HB)⟩)
                 ·skip
                  refine box_step ?hg (N:=13) ?hd (cs:=#[.int .i64 0,.int .i64 0]) (t:=23) ?hr ?_;(case hd=>rfl);(case hg=>rfl);(case hr=>first | (go_simp;done) | (go_simp;rfl))
                  intro b5 hg Q2 hbox hb
                  have d7:=A_ hbox
                  have e3:=gw hg HB
                  have h1:=e3
                  have c1:=nl hg b3
                  have d3:=ng hg b3
                  have d1:=nl hg b4
                  have d5:=ng hg b4
                  replace b3:=kB b3 hb
                  replace b4:=kB b4 hb
                  replace HB:=bB HB hb
                  clear hb hbox hg
                  refine hK.out _ _ ⟨(cT HB e6),(cT HB e5),(cT HB e8),(cT HB e7),(cT HB e9),(cT HB h0)⟩ (fun hHeld=>?_)
                  clear hK K
                  refine nq 13 ?_
                  exact norm_ (by first | (simp only [putAll,Act.put,List.setIfInBounds_toArray,List.set_cons_zero,List.set_cons_succ];done) | (simp only [putAll,Act.put,List.setIfInBounds_toArray,List.set_cons_zero,List.set_cons_succ];rfl)) (t9 (b5) _ ⟨hHeld,(kb b3),(kb b4),(kb d7),e3.out,h1.out,c1.out,d3.out,d1.out,d5.out,(bl HB)⟩)
                 skip
                 refine box_step ?hg (N:=14) ?hd (cs:=#[.int .i64 0,.int .i64 0]) (t:=23) ?hr ?_;(case hd=>rfl);(case hg=>rfl);(case hr=>first | (go_simp;done) | (go_simp;rfl))
                 intro b6 hg Q2 hbox hb
                 have d8:=A_ hbox
                 have e4:=gw hg HB
                 have h2:=e4
                 have d0:=nl hg b3
                 have d4:=ng hg b3
                 have d2:=nl hg b4
                 have d6:=ng hg b4
                 replace b3:=kB b3 hb
                 replace b4:=kB b4 hb
                 replace HB:=bB HB hb
                 clear hb hbox hg
                 refine hK.out _ _ ⟨(cT HB e6),(cT HB e5),(cT HB e8),(cT HB e7),(cT HB e9),(cT HB h0)⟩ (fun hHeld=>?_)
                 clear hK K
                 refine nq 14 ?_
                 exact norm_ (by first | (simp only [putAll,Act.put,List.setIfInBounds_toArray,List.set_cons_zero,List.set_cons_succ];done) | (simp only [putAll,Act.put,List.setIfInBounds_toArray,List.set_cons_zero,List.set_cons_succ];rfl)) (x1 (b6) _ ⟨hHeld,(kb b3),(kb b4),(kb d8),e4.out,h2.out,d0.out,d4.out,d2.out,d6.out,(bl HB)⟩)
                skip
                rintro b6 q0 ⟨hS_,i1,i2,i3,j9,l5,l6,l7,l8,l9,m0⟩
                have d8:Aside0 (q0.heap[b6]? = some (.cells #[.int .i64 0,.int .i64 0] 23 (0,0))):=⟨i3⟩
                have e4:Aside0 (w.heap.size ≤ b6):=⟨j9⟩
                have h2:Aside0 (w.heap.size ≤ b6):=⟨l5⟩
                have d0:Aside0 (b7 ≠ b6):=⟨l6⟩
                have d4:Aside0 (b6 ≠ b7):=⟨l7⟩
                have d2:Aside0 (b8 ≠ b6):=⟨l8⟩
                have d6:Aside0 (b6 ≠ b8):=⟨l9⟩
                replace b3:Aside0 (q0.heap[b7]? = some (.cells #[.int .i64 e0,.int .i64 d9] 51 (0,0))):=⟨i1⟩
                replace b4:Aside0 (q0.heap[b8]? = some (.cells #[.slice (some b9) l0.length c0,.int .i64 a1] 94 (0,0))):=⟨i2⟩
                replace HB:Aside0 (Below w.heap.size w q0):=⟨m0⟩
                clear i1 i2 i3 j9 l5 l6 l7 l8 l9 m0
                have hHeld:q0.cell? (b2.add ((b0).toNat * 2)) = some (.int .i64 ((rd_T23 l2 b0).f0)) ∧ q0.cell? ⟨(b2.add ((b0).toNat * 2)).block,(b2.add ((b0).toNat * 2)).off + 1,none⟩ = some (.int .i64 ((rd_T23 l2 b0).f1)) ∧ q0.cell? (b2.add ((b1).toNat * 2)) = some (.int .i64 ((rd_T23 l2 b1).f0)) ∧ q0.cell? ⟨(b2.add ((b1).toNat * 2)).block,(b2.add ((b1).toNat * 2)).off + 1,none⟩ = some (.int .i64 ((rd_T23 l2 b1).f1)) ∧ q0.cell? (b9.add (b0).toNat) = some (.int .i64 (rd l0 b0)) ∧ q0.cell? (b9.add (b1).toNat) = some (.int .i64 (rd l0 b1)):=hS_
                refine norm_ (a':=?_) ?_ ?_
                rotate_left
                ·simp only [putAll,Act.put,List.setIfInBounds_toArray,List.set_cons_zero,List.set_cons_succ]
                 rfl
                refine two_ (i:=8) (j:=21) (Ni:=some 51) (Nj:=some 13) (ba 25 4325375) (ba 25 6422271) rfl rfl rfl rfl (two_of HT_.out (by kernel_rfl)) (by decide) (by decide) (fun K hK=>?_) (fun K hK=>?_)
                ·skip
                 refine gq Try.func88 #[.agg #[.int .i64 ((rd_T23 l2 b0).f0),.int .i64 ((rd_T23 l2 b0).f1)],.agg #[.int .i64 ((rd_T23 l2 b1).f0),.int .i64 ((rd_T23 l2 b1).f1)]] ?_
                 with_reducible refine (shares_add.calls k2 ((rd_T23 l2 b0).f0) ((rd_T23 l2 b0).f1) ((rd_T23 l2 b1).f0) ((rd_T23 l2 b1).f1) h7 h8 _ t1.out).mono ?_
                 rintro e n7 ⟨rfl,hb⟩
                 refine ⟨_,rfl,?_⟩
                 replace b3:=kB b3 hb
                 replace b4:=kB b4 hb
                 replace d8:=kB d8 hb
                 replace HB:=bB HB hb
                 (try clear hb)
                 refine hK.out _ _ ⟨(cT HB e6),(cT HB e5),(cT HB e8),(cT HB e7),(cT HB e9),(cT HB h0)⟩ (fun hHeld=>?_)
                 clear hK K
                 refine nq 51 ?_
                 exact norm_ (by first | (simp only [putAll,Act.put,List.setIfInBounds_toArray,List.set_cons_zero,List.set_cons_succ];done) | (simp only [putAll,Act.put,List.setIfInBounds_toArray,List.set_cons_zero,List.set_cons_succ];rfl)) (p4 (b6) _ ⟨hHeld,(kb b3),(kb b4),(kb d8),e4.out,h2.out,d0.out,d4.out,d2.out,d6.out,(bl HB)⟩)
                skip
                refine box_step ?hg (N:=13) ?hd (cs:=#[.int .i64 0,.int .i64 0]) (t:=23) ?hr ?_;(case hd=>rfl);(case hg=>rfl);(case hr=>first | (go_simp;done) | (go_simp;rfl))
                intro b5 hg n7 hbox hb
                have d7:=A_ hbox
                have e3:=gw hg HB
                have h1:=e3
                have c1:=nl hg b3
                have d3:=ng hg b3
                have d1:=nl hg b4
                have d5:=ng hg b4
                have e1:=nl hg d8
                have e2:=ng hg d8
                replace b3:=kB b3 hb
                replace b4:=kB b4 hb
                replace d8:=kB d8 hb
                replace HB:=bB HB hb
                clear hb hbox hg
                refine hK.out _ _ ⟨(cT HB e6),(cT HB e5),(cT HB e8),(cT HB e7),(cT HB e9),(cT HB h0)⟩ (fun hHeld=>?_)
                clear hK K
                refine nq 13 ?_
                exact norm_ (by first | (simp only [putAll,Act.put,List.setIfInBounds_toArray,List.set_cons_zero,List.set_cons_succ];done) | (simp only [putAll,Act.put,List.setIfInBounds_toArray,List.set_cons_zero,List.set_cons_succ];rfl)) (o0 (b5,b6) _ ⟨hHeld,(kb b3),(kb b4),(kb d7),(kb d8),e3.out,h1.out,c1.out,d3.out,d1.out,d5.out,e1.out,e2.out,e4.out,h2.out,d0.out,d4.out,d2.out,d6.out,(bl HB)⟩)
               skip
               rintro b5 q0 ⟨hS_,i1,i2,i3,j9,l5,l6,l7,l8,l9,m0⟩
               have d7:Aside0 (q0.heap[b5]? = some (.cells #[.int .i64 0,.int .i64 0] 23 (0,0))):=⟨i3⟩
               have e3:Aside0 (w.heap.size ≤ b5):=⟨j9⟩
               have h1:Aside0 (w.heap.size ≤ b5):=⟨l5⟩
               have c1:Aside0 (b7 ≠ b5):=⟨l6⟩
               have d3:Aside0 (b5 ≠ b7):=⟨l7⟩
               have d1:Aside0 (b8 ≠ b5):=⟨l8⟩
               have d5:Aside0 (b5 ≠ b8):=⟨l9⟩
               replace b3:Aside0 (q0.heap[b7]? = some (.cells #[.int .i64 e0,.int .i64 d9] 51 (0,0))):=⟨i1⟩
               replace b4:Aside0 (q0.heap[b8]? = some (.cells #[.slice (some b9) l0.length c0,.int .i64 a1] 94 (0,0))):=⟨i2⟩
               replace HB:Aside0 (Below w.heap.size w q0):=⟨m0⟩
               clear i1 i2 i3 j9 l5 l6 l7 l8 l9 m0
               have hHeld:q0.cell? (b2.add ((b0).toNat * 2)) = some (.int .i64 ((rd_T23 l2 b0).f0)) ∧ q0.cell? ⟨(b2.add ((b0).toNat * 2)).block,(b2.add ((b0).toNat * 2)).off + 1,none⟩ = some (.int .i64 ((rd_T23 l2 b0).f1)) ∧ q0.cell? (b2.add ((b1).toNat * 2)) = some (.int .i64 ((rd_T23 l2 b1).f0)) ∧ q0.cell? ⟨(b2.add ((b1).toNat * 2)).block,(b2.add ((b1).toNat * 2)).off + 1,none⟩ = some (.int .i64 ((rd_T23 l2 b1).f1)) ∧ q0.cell? (b9.add (b0).toNat) = some (.int .i64 (rd l0 b0)) ∧ q0.cell? (b9.add (b1).toNat) = some (.int .i64 (rd l0 b1)):=hS_
               refine norm_ (a':=?_) ?_ ?_
               rotate_left
               ·simp only [putAll,Act.put,List.setIfInBounds_toArray,List.set_cons_zero,List.set_cons_succ]
                rfl
               refine two_ (i:=8) (j:=22) (Ni:=some 51) (Nj:=some 14) (ba 25 2228223) (ba 25 6422271) rfl rfl rfl rfl (two_of HT_.out (by kernel_rfl)) (by decide) (by decide) (fun K hK=>?_) (fun K hK=>?_)
               ·skip
                refine gq Try.func88 #[.agg #[.int .i64 ((rd_T23 l2 b0).f0),.int .i64 ((rd_T23 l2 b0).f1)],.agg #[.int .i64 ((rd_T23 l2 b1).f0),.int .i64 ((rd_T23 l2 b1).f1)]] ?_
                with_reducible refine (shares_add.calls k2 ((rd_T23 l2 b0).f0) ((rd_T23 l2 b0).f1) ((rd_T23 l2 b1).f0) ((rd_T23 l2 b1).f1) h7 h8 _ t1.out).mono ?_
                rintro e n7 ⟨rfl,hb⟩
                refine ⟨_,rfl,?_⟩
                replace b3:=kB b3 hb
                replace b4:=kB b4 hb
                replace d7:=kB d7 hb
                replace HB:=bB HB hb
                (try clear hb)
                refine hK.out _ _ ⟨(cT HB e6),(cT HB e5),(cT HB e8),(cT HB e7),(cT HB e9),(cT HB h0)⟩ (fun hHeld=>?_)
                clear hK K
                refine nq 51 ?_
                exact norm_ (by first | (simp only [putAll,Act.put,List.setIfInBounds_toArray,List.set_cons_zero,List.set_cons_succ];done) | (simp only [putAll,Act.put,List.setIfInBounds_toArray,List.set_cons_zero,List.set_cons_succ];rfl)) (p3 (b5) _ ⟨hHeld,(kb b3),(kb b4),(kb d7),e3.out,h1.out,c1.out,d3.out,d1.out,d5.out,(bl HB)⟩)
               skip
               refine box_step ?hg (N:=14) ?hd (cs:=#[.int .i64 0,.int .i64 0]) (t:=23) ?hr ?_;(case hd=>rfl);(case hg=>rfl);(case hr=>first | (go_simp;done) | (go_simp;rfl))
               intro b6 hg n7 hbox hb
               have d8:=A_ hbox
               have e4:=gw hg HB
               have h2:=e4
               have d0:=nl hg b3
               have d4:=ng hg b3
               have d2:=nl hg b4
               have d6:=ng hg b4
               have e2:=nl hg d7
               have e1:=ng hg d7
               replace b3:=kB b3 hb
               replace b4:=kB b4 hb
               replace d7:=kB d7 hb
               replace HB:=bB HB hb
               clear hb hbox hg
               refine hK.out _ _ ⟨(cT HB e6),(cT HB e5),(cT HB e8),(cT HB e7),(cT HB e9),(cT HB h0)⟩ (fun hHeld=>?_)
               clear hK K
               refine nq 14 ?_
               exact norm_ (by first | (simp only [putAll,Act.put,List.setIfInBounds_toArray,List.set_cons_zero,List.set_cons_succ];done) | (simp only [putAll,Act.put,List.setIfInBounds_toArray,List.set_cons_zero,List.set_cons_succ];rfl)) (o0 (b5,b6) _ ⟨hHeld,(kb b3),(kb b4),(kb d7),(kb d8),e3.out,h1.out,c1.out,d3.out,d1.out,d5.out,e1.out,e2.out,e4.out,h2.out,d0.out,d4.out,d2.out,d6.out,(bl HB)⟩)
              skip
              rintro _ q0 ⟨hS_,i1,i2,i3⟩
              replace b3:Aside0 (q0.heap[b7]? = some (.cells #[.int .i64 e0,.int .i64 d9] 51 (0,0))):=⟨i1⟩
              replace b4:Aside0 (q0.heap[b8]? = some (.cells #[.slice (some b9) l0.length c0,.int .i64 a1] 94 (0,0))):=⟨i2⟩
              replace HB:Aside0 (Below w.heap.size w q0):=⟨i3⟩
              clear i1 i2 i3
              have hHeld:q0.cell? (b2.add ((b0).toNat * 2)) = some (.int .i64 ((rd_T23 l2 b0).f0)) ∧ q0.cell? ⟨(b2.add ((b0).toNat * 2)).block,(b2.add ((b0).toNat * 2)).off + 1,none⟩ = some (.int .i64 ((rd_T23 l2 b0).f1)) ∧ q0.cell? (b2.add ((b1).toNat * 2)) = some (.int .i64 ((rd_T23 l2 b1).f0)) ∧ q0.cell? ⟨(b2.add ((b1).toNat * 2)).block,(b2.add ((b1).toNat * 2)).off + 1,none⟩ = some (.int .i64 ((rd_T23 l2 b1).f1)) ∧ q0.cell? (b9.add (b0).toNat) = some (.int .i64 (rd l0 b0)) ∧ q0.cell? (b9.add (b1).toNat) = some (.int .i64 (rd l0 b1)):=hS_
              refine norm_ (a':=?_) ?_ ?_
              rotate_left
              ·simp only [putAll,Act.put,List.setIfInBounds_toArray,List.set_cons_zero,List.set_cons_succ]
               rfl
              refine three_ (i:=17) (j:=21) (k:=22) (Ni:=some 60) (Nj:=some 13) (Nk:=some 14) (ba 25 262143) (ba 25 2228223) (ba 25 4325375) rfl rfl rfl rfl rfl rfl (three_of HT_.out (by kernel_rfl)) (by decide) (by decide) (by decide) (fun K hK=>?_) (fun K hK=>?_) (fun K hK=>?_)
              ·skip
               refine gq Try.func63 #[.agg #[.int .i64 h7,.int .i64 h8],.int .i64 (rd l0 b0),.int .i64 (rd l0 b1)] ?_
               with_reducible refine (shares_garment.calls k2 h7 h8 (rd l0 b0) (rd l0 b1) h3 h5 h4 h6 _ t2.out).mono ?_
               rintro e n7 ⟨rfl,hb⟩
               refine ⟨_,rfl,?_⟩
               replace b3:=kB b3 hb
               replace b4:=kB b4 hb
               replace HB:=bB HB hb
               (try clear hb)
               refine hK.out _ _ ⟨(cT HB e6),(cT HB e5),(cT HB e8),(cT HB e7),(cT HB e9),(cT HB h0)⟩ (fun hHeld=>?_)
               clear hK K
               refine nq 60 ?_
               refine pq 18 42 524287 HT_ ?_
               refine pq 19 61 1048575 HT_ ?_
               refine pq 20 62 2097151 HT_ ?_
               exact norm_ (by first | (simp only [putAll,Act.put,List.setIfInBounds_toArray,List.set_cons_zero,List.set_cons_succ];done) | (simp only [putAll,Act.put,List.setIfInBounds_toArray,List.set_cons_zero,List.set_cons_succ];rfl)) (q9 () _ ⟨hHeld,(kb b3),(kb b4),(bl HB)⟩)
              ·skip
               refine box_step ?hg (N:=13) ?hd (cs:=#[.int .i64 0,.int .i64 0]) (t:=23) ?hr ?_;(case hd=>rfl);(case hg=>rfl);(case hr=>first | (go_simp;done) | (go_simp;rfl))
               intro b5 hg n7 hbox hb
               have d7:=A_ hbox
               have e3:=gw hg HB
               have h1:=e3
               have c1:=nl hg b3
               have d3:=ng hg b3
               have d1:=nl hg b4
               have d5:=ng hg b4
               replace b3:=kB b3 hb
               replace b4:=kB b4 hb
               replace HB:=bB HB hb
               clear hb hbox hg
               refine hK.out _ _ ⟨(cT HB e6),(cT HB e5),(cT HB e8),(cT HB e7),(cT HB e9),(cT HB h0)⟩ (fun hHeld=>?_)
               clear hK K
               refine nq 13 ?_
               exact norm_ (by first | (simp only [putAll,Act.put,List.setIfInBounds_toArray,List.set_cons_zero,List.set_cons_succ];done) | (simp only [putAll,Act.put,List.setIfInBounds_toArray,List.set_cons_zero,List.set_cons_succ];rfl)) (p3 (b5) _ ⟨hHeld,(kb b3),(kb b4),(kb d7),e3.out,h1.out,c1.out,d3.out,d1.out,d5.out,(bl HB)⟩)
              skip
              refine box_step ?hg (N:=14) ?hd (cs:=#[.int .i64 0,.int .i64 0]) (t:=23) ?hr ?_;(case hd=>rfl);(case hg=>rfl);(case hr=>first | (go_simp;done) | (go_simp;rfl))
              intro b6 hg n7 hbox hb
              have d8:=A_ hbox
              have e4:=gw hg HB
              have h2:=e4
              have d0:=nl hg b3
              have d4:=ng hg b3
              have d2:=nl hg b4
              have d6:=ng hg b4
              replace b3:=kB b3 hb
              replace b4:=kB b4 hb
              replace HB:=bB HB hb
              clear hb hbox hg
              refine hK.out _ _ ⟨(cT HB e6),(cT HB e5),(cT HB e8),(cT HB e7),(cT HB e9),(cT HB h0)⟩ (fun hHeld=>?_)
              clear hK K
              refine nq 14 ?_
              exact norm_ (by first | (simp only [putAll,Act.put,List.setIfInBounds_toArray,List.set_cons_zero,List.set_cons_succ];done) | (simp only [putAll,Act.put,List.setIfInBounds_toArray,List.set_cons_zero,List.set_cons_succ];rfl)) (p4 (b6) _ ⟨hHeld,(kb b3),(kb b4),(kb d8),e4.out,h2.out,d0.out,d4.out,d2.out,d6.out,(bl HB)⟩)
             skip
             rintro ⟨b5,b6⟩ n7 ⟨hS_,i1,i2,i3,j9,l5,l6,l7,l8,l9,m0,m7,m8,m9,n0,n1,n2,n3,n4,n5⟩
             have d7:Aside0 (n7.heap[b5]? = some (.cells #[.int .i64 0,.int .i64 0] 23 (0,0))):=⟨i3⟩
             have d8:Aside0 (n7.heap[b6]? = some (.cells #[.int .i64 0,.int .i64 0] 23 (0,0))):=⟨j9⟩
             have e3:Aside0 (w.heap.size ≤ b5):=⟨l5⟩
             have h1:Aside0 (w.heap.size ≤ b5):=⟨l6⟩
             have c1:Aside0 (b7 ≠ b5):=⟨l7⟩
             have d3:Aside0 (b5 ≠ b7):=⟨l8⟩
             have d1:Aside0 (b8 ≠ b5):=⟨l9⟩
             have d5:Aside0 (b5 ≠ b8):=⟨m0⟩
             have e1:Aside0 (b6 ≠ b5):=⟨m7⟩
             have e2:Aside0 (b5 ≠ b6):=⟨m8⟩
             have e4:Aside0 (w.heap.size ≤ b6):=⟨m9⟩
             have h2:Aside0 (w.heap.size ≤ b6):=⟨n0⟩
             have d0:Aside0 (b7 ≠ b6):=⟨n1⟩
             have d4:Aside0 (b6 ≠ b7):=⟨n2⟩
             have d2:Aside0 (b8 ≠ b6):=⟨n3⟩
             have d6:Aside0 (b6 ≠ b8):=⟨n4⟩
             replace b3:Aside0 (n7.heap[b7]? = some (.cells #[.int .i64 e0,.int .i64 d9] 51 (0,0))):=⟨i1⟩
             replace b4:Aside0 (n7.heap[b8]? = some (.cells #[.slice (some b9) l0.length c0,.int .i64 a1] 94 (0,0))):=⟨i2⟩
             replace HB:Aside0 (Below w.heap.size w n7):=⟨n5⟩
             clear i1 i2 i3 j9 l5 l6 l7 l8 l9 m0 m7 m8 m9 n0 n1 n2 n3 n4 n5
             have hHeld:n7.cell? (b2.add ((b0).toNat * 2)) = some (.int .i64 ((rd_T23 l2 b0).f0)) ∧ n7.cell? ⟨(b2.add ((b0).toNat * 2)).block,(b2.add ((b0).toNat * 2)).off + 1,none⟩ = some (.int .i64 ((rd_T23 l2 b0).f1)) ∧ n7.cell? (b2.add ((b1).toNat * 2)) = some (.int .i64 ((rd_T23 l2 b1).f0)) ∧ n7.cell? ⟨(b2.add ((b1).toNat * 2)).block,(b2.add ((b1).toNat * 2)).off + 1,none⟩ = some (.int .i64 ((rd_T23 l2 b1).f1)) ∧ n7.cell? (b9.add (b0).toNat) = some (.int .i64 (rd l0 b0)) ∧ n7.cell? (b9.add (b1).toNat) = some (.int .i64 (rd l0 b1)):=hS_
             refine norm_ (a':=?_) ?_ ?_
             rotate_left
             ·simp only [putAll,Act.put,List.setIfInBounds_toArray,List.set_cons_zero,List.set_cons_succ]
              rfl
             refine oq 8 51 6422527 HT_ (fun K hK=>?_)
             refine gq Try.func88 #[.agg #[.int .i64 ((rd_T23 l2 b0).f0),.int .i64 ((rd_T23 l2 b0).f1)],.agg #[.int .i64 ((rd_T23 l2 b1).f0),.int .i64 ((rd_T23 l2 b1).f1)]] ?_
             with_reducible refine (shares_add.calls k2 ((rd_T23 l2 b0).f0) ((rd_T23 l2 b0).f1) ((rd_T23 l2 b1).f0) ((rd_T23 l2 b1).f1) h7 h8 _ t1.out).mono ?_
             rintro e o2 ⟨rfl,hb⟩
             refine ⟨_,rfl,?_⟩
             replace b3:=kB b3 hb
             replace b4:=kB b4 hb
             replace d7:=kB d7 hb
             replace d8:=kB d8 hb
             replace HB:=bB HB hb
             (try clear hb)
             refine hK.out _ _ ⟨(cT HB e6),(cT HB e5),(cT HB e8),(cT HB e7),(cT HB e9),(cT HB h0)⟩ (fun hHeld=>?_)
             clear hK K
             refine nq 51 ?_
             exact norm_ (by first | (simp only [putAll,Act.put,List.setIfInBounds_toArray,List.set_cons_zero,List.set_cons_succ];done) | (simp only [putAll,Act.put,List.setIfInBounds_toArray,List.set_cons_zero,List.set_cons_succ];rfl)) (j8 (b5,b6) _ ⟨hHeld,(kb b3),(kb b4),(kb d7),(kb d8),e3.out,h1.out,c1.out,d3.out,d1.out,d5.out,e1.out,e2.out,e4.out,h2.out,d0.out,d4.out,d2.out,d6.out,(bl HB)⟩)
            skip
            rintro b6 n7 ⟨hS_,i1,i2,i3,j9,l5,l6,l7,l8,l9,m0⟩
            have d8:Aside0 (n7.heap[b6]? = some (.cells #[.int .i64 0,.int .i64 0] 23 (0,0))):=⟨i3⟩
            have e4:Aside0 (w.heap.size ≤ b6):=⟨j9⟩
            have h2:Aside0 (w.heap.size ≤ b6):=⟨l5⟩
            have d0:Aside0 (b7 ≠ b6):=⟨l6⟩
            have d4:Aside0 (b6 ≠ b7):=⟨l7⟩
            have d2:Aside0 (b8 ≠ b6):=⟨l8⟩
            have d6:Aside0 (b6 ≠ b8):=⟨l9⟩
            replace b3:Aside0 (n7.heap[b7]? = some (.cells #[.int .i64 e0,.int .i64 d9] 51 (0,0))):=⟨i1⟩
            replace b4:Aside0 (n7.heap[b8]? = some (.cells #[.slice (some b9) l0.length c0,.int .i64 a1] 94 (0,0))):=⟨i2⟩
            replace HB:Aside0 (Below w.heap.size w n7):=⟨m0⟩
            clear i1 i2 i3 j9 l5 l6 l7 l8 l9 m0
            have hHeld:n7.cell? (b2.add ((b0).toNat * 2)) = some (.int .i64 ((rd_T23 l2 b0).f0)) ∧ n7.cell? ⟨(b2.add ((b0).toNat * 2)).block,(b2.add ((b0).toNat * 2)).off + 1,none⟩ = some (.int .i64 ((rd_T23 l2 b0).f1)) ∧ n7.cell? (b2.add ((b1).toNat * 2)) = some (.int .i64 ((rd_T23 l2 b1).f0)) ∧ n7.cell? ⟨(b2.add ((b1).toNat * 2)).block,(b2.add ((b1).toNat * 2)).off + 1,none⟩ = some (.int .i64 ((rd_T23 l2 b1).f1)) ∧ n7.cell? (b9.add (b0).toNat) = some (.int .i64 (rd l0 b0)) ∧ n7.cell? (b9.add (b1).toNat) = some (.int .i64 (rd l0 b1)):=hS_
            refine norm_ (a':=?_) ?_ ?_
            rotate_left
            ·simp only [putAll,Act.put,List.setIfInBounds_toArray,List.set_cons_zero,List.set_cons_succ]
             rfl
            refine two_ (i:=17) (j:=21) (Ni:=some 60) (Nj:=some 13) (ba 25 4456447) (ba 25 6422527) rfl rfl rfl rfl (two_of HT_.out (by kernel_rfl)) (by decide) (by decide) (fun K hK=>?_) (fun K hK=>?_)
            ·skip
             refine gq Try.func63 #[.agg #[.int .i64 h7,.int .i64 h8],.int .i64 (rd l0 b0),.int .i64 (rd l0 b1)] ?_
             with_reducible refine (shares_garment.calls k2 h7 h8 (rd l0 b0) (rd l0 b1) h3 h5 h4 h6 _ t2.out).mono ?_
             rintro e o2 ⟨rfl,hb⟩
             refine ⟨_,rfl,?_⟩
             replace b3:=kB b3 hb
             replace b4:=kB b4 hb
             replace d8:=kB d8 hb
             replace HB:=bB HB hb
             (try clear hb)
             refine hK.out _ _ ⟨(cT HB e6),(cT HB e5),(cT HB e8),(cT HB e7),(cT HB e9),(cT HB h0)⟩ (fun hHeld=>?_)
             clear hK K
             refine nq 60 ?_
             refine pq 18 42 4718591 HT_ ?_
             refine pq 19 61 5242879 HT_ ?_
             refine pq 20 62 6291455 HT_ ?_
             exact norm_ (by first | (simp only [putAll,Act.put,List.setIfInBounds_toArray,List.set_cons_zero,List.set_cons_succ];done) | (simp only [putAll,Act.put,List.setIfInBounds_toArray,List.set_cons_zero,List.set_cons_succ];rfl)) (m3 (b6) _ ⟨hHeld,(kb b3),(kb b4),(kb d8),e4.out,h2.out,d0.out,d4.out,d2.out,d6.out,(bl HB)⟩)
            skip
            refine box_step ?hg (N:=13) ?hd (cs:=#[.int .i64 0,.int .i64 0]) (t:=23) ?hr ?_;(case hd=>rfl);(case hg=>rfl);(case hr=>first | (go_simp;done) | (go_simp;rfl))
            intro b5 hg o2 hbox hb
            have d7:=A_ hbox
            have e3:=gw hg HB
            have h1:=e3
            have c1:=nl hg b3
            have d3:=ng hg b3
            have d1:=nl hg b4
            have d5:=ng hg b4
            have e1:=nl hg d8
            have e2:=ng hg d8
            replace b3:=kB b3 hb
            replace b4:=kB b4 hb
            replace d8:=kB d8 hb
            replace HB:=bB HB hb
            clear hb hbox hg
            refine hK.out _ _ ⟨(cT HB e6),(cT HB e5),(cT HB e8),(cT HB e7),(cT HB e9),(cT HB h0)⟩ (fun hHeld=>?_)
            clear hK K
            refine nq 13 ?_
            exact norm_ (by first | (simp only [putAll,Act.put,List.setIfInBounds_toArray,List.set_cons_zero,List.set_cons_succ];done) | (simp only [putAll,Act.put,List.setIfInBounds_toArray,List.set_cons_zero,List.set_cons_succ];rfl)) (j8 (b5,b6) _ ⟨hHeld,(kb b3),(kb b4),(kb d7),(kb d8),e3.out,h1.out,c1.out,d3.out,d1.out,d5.out,e1.out,e2.out,e4.out,h2.out,d0.out,d4.out,d2.out,d6.out,(bl HB)⟩)
           skip
           rintro b5 n7 ⟨hS_,i1,i2,i3,j9,l5,l6,l7,l8,l9,m0⟩
           have d7:Aside0 (n7.heap[b5]? = some (.cells #[.int .i64 0,.int .i64 0] 23 (0,0))):=⟨i3⟩
           have e3:Aside0 (w.heap.size ≤ b5):=⟨j9⟩
           have h1:Aside0 (w.heap.size ≤ b5):=⟨l5⟩
           have c1:Aside0 (b7 ≠ b5):=⟨l6⟩
           have d3:Aside0 (b5 ≠ b7):=⟨l7⟩
           have d1:Aside0 (b8 ≠ b5):=⟨l8⟩
           have d5:Aside0 (b5 ≠ b8):=⟨l9⟩
           replace b3:Aside0 (n7.heap[b7]? = some (.cells #[.int .i64 e0,.int .i64 d9] 51 (0,0))):=⟨i1⟩
           replace b4:Aside0 (n7.heap[b8]? = some (.cells #[.slice (some b9) l0.length c0,.int .i64 a1] 94 (0,0))):=⟨i2⟩
           replace HB:Aside0 (Below w.heap.size w n7):=⟨m0⟩
           clear i1 i2 i3 j9 l5 l6 l7 l8 l9 m0
           have hHeld:n7.cell? (b2.add ((b0).toNat * 2)) = some (.int .i64 ((rd_T23 l2 b0).f0)) ∧ n7.cell? ⟨(b2.add ((b0).toNat * 2)).block,(b2.add ((b0).toNat * 2)).off + 1,none⟩ = some (.int .i64 ((rd_T23 l2 b0).f1)) ∧ n7.cell? (b2.add ((b1).toNat * 2)) = some (.int .i64 ((rd_T23 l2 b1).f0)) ∧ n7.cell? ⟨(b2.add ((b1).toNat * 2)).block,(b2.add ((b1).toNat * 2)).off + 1,none⟩ = some (.int .i64 ((rd_T23 l2 b1).f1)) ∧ n7.cell? (b9.add (b0).toNat) = some (.int .i64 (rd l0 b0)) ∧ n7.cell? (b9.add (b1).toNat) = some (.int .i64 (rd l0 b1)):=hS_
           refine norm_ (a':=?_) ?_ ?_
           rotate_left
           ·simp only [putAll,Act.put,List.setIfInBounds_toArray,List.set_cons_zero,List.set_cons_succ]
            rfl
           refine two_ (i:=17) (j:=22) (Ni:=some 60) (Nj:=some 14) (ba 25 2359295) (ba 25 6422527) rfl rfl rfl rfl (two_of HT_.out (by kernel_rfl)) (by decide) (by decide) (fun K hK=>?_) (fun K hK=>?_)
           ·skip
            refine gq Try.func63 #[.agg #[.int .i64 h7,.int .i64 h8],.int .i64 (rd l0 b0),.int .i64 (rd l0 b1)] ?_
            with_reducible refine (shares_garment.calls k2 h7 h8 (rd l0 b0) (rd l0 b1) h3 h5 h4 h6 _ t2.out).mono ?_
            rintro e o2 ⟨rfl,hb⟩
            refine ⟨_,rfl,?_⟩
            replace b3:=kB b3 hb
            replace b4:=kB b4 hb
            replace d7:=kB d7 hb
            replace HB:=bB HB hb
            (try clear hb)
            refine hK.out _ _ ⟨(cT HB e6),(cT HB e5),(cT HB e8),(cT HB e7),(cT HB e9),(cT HB h0)⟩ (fun hHeld=>?_)
            clear hK K
            refine nq 60 ?_
            refine pq 18 42 2621439 HT_ ?_
            refine pq 19 61 3145727 HT_ ?_
            refine pq 20 62 4194303 HT_ ?_
            exact norm_ (by first | (simp only [putAll,Act.put,List.setIfInBounds_toArray,List.set_cons_zero,List.set_cons_succ];done) | (simp only [putAll,Act.put,List.setIfInBounds_toArray,List.set_cons_zero,List.set_cons_succ];rfl)) (m2 (b5) _ ⟨hHeld,(kb b3),(kb b4),(kb d7),e3.out,h1.out,c1.out,d3.out,d1.out,d5.out,(bl HB)⟩)
           skip
           refine box_step ?hg (N:=14) ?hd (cs:=#[.int .i64 0,.int .i64 0]) (t:=23) ?hr ?_;(case hd=>rfl);(case hg=>rfl);(case hr=>first | (go_simp;done) | (go_simp;rfl))
           intro b6 hg o2 hbox hb
           have d8:=A_ hbox
           have e4:=gw hg HB
           have h2:=e4
           have d0:=nl hg b3
           have d4:=ng hg b3
           have d2:=nl hg b4
           have d6:=ng hg b4
           have e2:=nl hg d7
           have e1:=ng hg d7
           replace b3:=kB b3 hb
           replace b4:=kB b4 hb
           replace d7:=kB d7 hb
           replace HB:=bB HB hb
           clear hb hbox hg
           refine hK.out _ _ ⟨(cT HB e6),(cT HB e5),(cT HB e8),(cT HB e7),(cT HB e9),(cT HB h0)⟩ (fun hHeld=>?_)
           clear hK K
           refine nq 14 ?_
           exact norm_ (by first | (simp only [putAll,Act.put,List.setIfInBounds_toArray,List.set_cons_zero,List.set_cons_succ];done) | (simp only [putAll,Act.put,List.setIfInBounds_toArray,List.set_cons_zero,List.set_cons_succ];rfl)) (j8 (b5,b6) _ ⟨hHeld,(kb b3),(kb b4),(kb d7),(kb d8),e3.out,h1.out,c1.out,d3.out,d1.out,d5.out,e1.out,e2.out,e4.out,h2.out,d0.out,d4.out,d2.out,d6.out,(bl HB)⟩)
          skip
          rintro _ n7 ⟨hS_,i1,i2,i3⟩
          replace b3:Aside0 (n7.heap[b7]? = some (.cells #[.int .i64 e0,.int .i64 d9] 51 (0,0))):=⟨i1⟩
          replace b4:Aside0 (n7.heap[b8]? = some (.cells #[.slice (some b9) l0.length c0,.int .i64 a1] 94 (0,0))):=⟨i2⟩
          replace HB:Aside0 (Below w.heap.size w n7):=⟨i3⟩
          clear i1 i2 i3
          have hHeld:n7.cell? (b2.add ((b0).toNat * 2)) = some (.int .i64 ((rd_T23 l2 b0).f0)) ∧ n7.cell? ⟨(b2.add ((b0).toNat * 2)).block,(b2.add ((b0).toNat * 2)).off + 1,none⟩ = some (.int .i64 ((rd_T23 l2 b0).f1)) ∧ n7.cell? (b2.add ((b1).toNat * 2)) = some (.int .i64 ((rd_T23 l2 b1).f0)) ∧ n7.cell? ⟨(b2.add ((b1).toNat * 2)).block,(b2.add ((b1).toNat * 2)).off + 1,none⟩ = some (.int .i64 ((rd_T23 l2 b1).f1)) ∧ n7.cell? (b9.add (b0).toNat) = some (.int .i64 (rd l0 b0)) ∧ n7.cell? (b9.add (b1).toNat) = some (.int .i64 (rd l0 b1)):=hS_
          refine norm_ (a':=?_) ?_ ?_
          rotate_left
          ·simp only [putAll,Act.put,List.setIfInBounds_toArray,List.set_cons_zero,List.set_cons_succ]
           rfl
          refine two_ (i:=21) (j:=22) (Ni:=some 13) (Nj:=some 14) (ba 25 4194303) (ba 25 6291455) rfl rfl rfl rfl (two_of HT_.out (by kernel_rfl)) (by decide) (by decide) (fun K hK=>?_) (fun K hK=>?_)
          ·skip
           refine box_step ?hg (N:=13) ?hd (cs:=#[.int .i64 0,.int .i64 0]) (t:=23) ?hr ?_;(case hd=>rfl);(case hg=>rfl);(case hr=>first | (go_simp;done) | (go_simp;rfl))
           intro b5 hg o2 hbox hb
           have d7:=A_ hbox
           have e3:=gw hg HB
           have h1:=e3
           have c1:=nl hg b3
           have d3:=ng hg b3
           have d1:=nl hg b4
           have d5:=ng hg b4
           replace b3:=kB b3 hb
           replace b4:=kB b4 hb
           replace HB:=bB HB hb
           clear hb hbox hg
           refine hK.out _ _ ⟨(cT HB e6),(cT HB e5),(cT HB e8),(cT HB e7),(cT HB e9),(cT HB h0)⟩ (fun hHeld=>?_)
           clear hK K
           refine nq 13 ?_
           exact norm_ (by first | (simp only [putAll,Act.put,List.setIfInBounds_toArray,List.set_cons_zero,List.set_cons_succ];done) | (simp only [putAll,Act.put,List.setIfInBounds_toArray,List.set_cons_zero,List.set_cons_succ];rfl)) (m2 (b5) _ ⟨hHeld,(kb b3),(kb b4),(kb d7),e3.out,h1.out,c1.out,d3.out,d1.out,d5.out,(bl HB)⟩)
          skip
          refine box_step ?hg (N:=14) ?hd (cs:=#[.int .i64 0,.int .i64 0]) (t:=23) ?hr ?_;(case hd=>rfl);(case hg=>rfl);(case hr=>first | (go_simp;done) | (go_simp;rfl))
          intro b6 hg o2 hbox hb
          have d8:=A_ hbox
          have e4:=gw hg HB
          have h2:=e4
          have d0:=nl hg b3
          have d4:=ng hg b3
          have d2:=nl hg b4
          have d6:=ng hg b4
          replace b3:=kB b3 hb
          replace b4:=kB b4 hb
          replace HB:=bB HB hb
          clear hb hbox hg
          refine hK.out _ _ ⟨(cT HB e6),(cT HB e5),(cT HB e8),(cT HB e7),(cT HB e9),(cT HB h0)⟩ (fun hHeld=>?_)
          clear hK K
          refine nq 14 ?_
          exact norm_ (by first | (simp only [putAll,Act.put,List.setIfInBounds_toArray,List.set_cons_zero,List.set_cons_succ];done) | (simp only [putAll,Act.put,List.setIfInBounds_toArray,List.set_cons_zero,List.set_cons_succ];rfl)) (m3 (b6) _ ⟨hHeld,(kb b3),(kb b4),(kb d8),e4.out,h2.out,d0.out,d4.out,d2.out,d6.out,(bl HB)⟩)
         skip
         rintro ⟨b5,b6⟩ o2 ⟨hS_,i1,i2,i3,j9,l5,l6,l7,l8,l9,m0,m7,m8,m9,n0,n1,n2,n3,n4,n5⟩
         have d7:Aside0 (o2.heap[b5]? = some (.cells #[.int .i64 0,.int .i64 0] 23 (0,0))):=⟨i3⟩
         have d8:Aside0 (o2.heap[b6]? = some (.cells #[.int .i64 0,.int .i64 0] 23 (0,0))):=⟨j9⟩
         have e3:Aside0 (w.heap.size ≤ b5):=⟨l5⟩
         have h1:Aside0 (w.heap.size ≤ b5):=⟨l6⟩
         have c1:Aside0 (b7 ≠ b5):=⟨l7⟩
         have d3:Aside0 (b5 ≠ b7):=⟨l8⟩
         have d1:Aside0 (b8 ≠ b5):=⟨l9⟩
         have d5:Aside0 (b5 ≠ b8):=⟨m0⟩
         have e1:Aside0 (b6 ≠ b5):=⟨m7⟩
         have e2:Aside0 (b5 ≠ b6):=⟨m8⟩
         have e4:Aside0 (w.heap.size ≤ b6):=⟨m9⟩
         have h2:Aside0 (w.heap.size ≤ b6):=⟨n0⟩
         have d0:Aside0 (b7 ≠ b6):=⟨n1⟩
         have d4:Aside0 (b6 ≠ b7):=⟨n2⟩
         have d2:Aside0 (b8 ≠ b6):=⟨n3⟩
         have d6:Aside0 (b6 ≠ b8):=⟨n4⟩
         replace b3:Aside0 (o2.heap[b7]? = some (.cells #[.int .i64 e0,.int .i64 d9] 51 (0,0))):=⟨i1⟩
         replace b4:Aside0 (o2.heap[b8]? = some (.cells #[.slice (some b9) l0.length c0,.int .i64 a1] 94 (0,0))):=⟨i2⟩
         replace HB:Aside0 (Below w.heap.size w o2):=⟨n5⟩
         clear i1 i2 i3 j9 l5 l6 l7 l8 l9 m0 m7 m8 m9 n0 n1 n2 n3 n4 n5
         have hHeld:o2.cell? (b2.add ((b0).toNat * 2)) = some (.int .i64 ((rd_T23 l2 b0).f0)) ∧ o2.cell? ⟨(b2.add ((b0).toNat * 2)).block,(b2.add ((b0).toNat * 2)).off + 1,none⟩ = some (.int .i64 ((rd_T23 l2 b0).f1)) ∧ o2.cell? (b2.add ((b1).toNat * 2)) = some (.int .i64 ((rd_T23 l2 b1).f0)) ∧ o2.cell? ⟨(b2.add ((b1).toNat * 2)).block,(b2.add ((b1).toNat * 2)).off + 1,none⟩ = some (.int .i64 ((rd_T23 l2 b1).f1)) ∧ o2.cell? (b9.add (b0).toNat) = some (.int .i64 (rd l0 b0)) ∧ o2.cell? (b9.add (b1).toNat) = some (.int .i64 (rd l0 b1)):=hS_
         refine norm_ (a':=?_) ?_ ?_
         rotate_left
         ·simp only [putAll,Act.put,List.setIfInBounds_toArray,List.set_cons_zero,List.set_cons_succ]
          rfl
         refine oq 17 60 6553599 HT_ (fun K hK=>?_)
         refine gq Try.func63 #[.agg #[.int .i64 h7,.int .i64 h8],.int .i64 (rd l0 b0),.int .i64 (rd l0 b1)] ?_
         with_reducible refine (shares_garment.calls k2 h7 h8 (rd l0 b0) (rd l0 b1) h3 h5 h4 h6 _ t2.out).mono ?_
         rintro e q4 ⟨rfl,hb⟩
         refine ⟨_,rfl,?_⟩
         replace b3:=kB b3 hb
         replace b4:=kB b4 hb
         replace d7:=kB d7 hb
         replace d8:=kB d8 hb
         replace HB:=bB HB hb
         (try clear hb)
         refine hK.out _ _ ⟨(cT HB e6),(cT HB e5),(cT HB e8),(cT HB e7),(cT HB e9),(cT HB h0)⟩ (fun hHeld=>?_)
         clear hK K
         refine nq 60 ?_
         refine pq 18 42 6815743 HT_ ?_
         refine pq 19 61 7340031 HT_ ?_
         refine pq 20 62 8388607 HT_ ?_
         exact norm_ (by first | (simp only [putAll,Act.put,List.setIfInBounds_toArray,List.set_cons_zero,List.set_cons_succ];done) | (simp only [putAll,Act.put,List.setIfInBounds_toArray,List.set_cons_zero,List.set_cons_succ];rfl)) (h9 (b5,b6) _ ⟨hHeld,(kb b3),(kb b4),(kb d7),(kb d8),e3.out,h1.out,c1.out,d3.out,d1.out,d5.out,e1.out,e2.out,e4.out,h2.out,d0.out,d4.out,d2.out,d6.out,(bl HB)⟩)
        skip
        rintro b6 o2 ⟨hS_,i1,i2,i3,j9,l5,l6,l7,l8,l9,m0⟩
        have d8:Aside0 (o2.heap[b6]? = some (.cells #[.int .i64 0,.int .i64 0] 23 (0,0))):=⟨i3⟩
        have e4:Aside0 (w.heap.size ≤ b6):=⟨j9⟩
        have h2:Aside0 (w.heap.size ≤ b6):=⟨l5⟩
        have d0:Aside0 (b7 ≠ b6):=⟨l6⟩
        have d4:Aside0 (b6 ≠ b7):=⟨l7⟩
        have d2:Aside0 (b8 ≠ b6):=⟨l8⟩
        have d6:Aside0 (b6 ≠ b8):=⟨l9⟩
        replace b3:Aside0 (o2.heap[b7]? = some (.cells #[.int .i64 e0,.int .i64 d9] 51 (0,0))):=⟨i1⟩
        replace b4:Aside0 (o2.heap[b8]? = some (.cells #[.slice (some b9) l0.length c0,.int .i64 a1] 94 (0,0))):=⟨i2⟩
        replace HB:Aside0 (Below w.heap.size w o2):=⟨m0⟩
        clear i1 i2 i3 j9 l5 l6 l7 l8 l9 m0
        have hHeld:o2.cell? (b2.add ((b0).toNat * 2)) = some (.int .i64 ((rd_T23 l2 b0).f0)) ∧ o2.cell? ⟨(b2.add ((b0).toNat * 2)).block,(b2.add ((b0).toNat * 2)).off + 1,none⟩ = some (.int .i64 ((rd_T23 l2 b0).f1)) ∧ o2.cell? (b2.add ((b1).toNat * 2)) = some (.int .i64 ((rd_T23 l2 b1).f0)) ∧ o2.cell? ⟨(b2.add ((b1).toNat * 2)).block,(b2.add ((b1).toNat * 2)).off + 1,none⟩ = some (.int .i64 ((rd_T23 l2 b1).f1)) ∧ o2.cell? (b9.add (b0).toNat) = some (.int .i64 (rd l0 b0)) ∧ o2.cell? (b9.add (b1).toNat) = some (.int .i64 (rd l0 b1)):=hS_
        refine norm_ (a':=?_) ?_ ?_
        rotate_left
        ·simp only [putAll,Act.put,List.setIfInBounds_toArray,List.set_cons_zero,List.set_cons_succ]
         rfl
        refine oq 21 13 8388607 HT_ (fun K hK=>?_)
        refine box_step ?hg (N:=13) ?hd (cs:=#[.int .i64 0,.int .i64 0]) (t:=23) ?hr ?_;(case hd=>rfl);(case hg=>rfl);(case hr=>first | (go_simp;done) | (go_simp;rfl))
        intro b5 hg q4 hbox hb
        have d7:=A_ hbox
        have e3:=gw hg HB
        have h1:=e3
        have c1:=nl hg b3
        have d3:=ng hg b3
        have d1:=nl hg b4
        have d5:=ng hg b4
        have e1:=nl hg d8
        have e2:=ng hg d8
        replace b3:=kB b3 hb
        replace b4:=kB b4 hb
        replace d8:=kB d8 hb
        replace HB:=bB HB hb
        clear hb hbox hg
        refine hK.out _ _ ⟨(cT HB e6),(cT HB e5),(cT HB e8),(cT HB e7),(cT HB e9),(cT HB h0)⟩ (fun hHeld=>?_)
        clear hK K
        refine nq 13 ?_
        exact norm_ (by first | (simp only [putAll,Act.put,List.setIfInBounds_toArray,List.set_cons_zero,List.set_cons_succ];done) | (simp only [putAll,Act.put,List.setIfInBounds_toArray,List.set_cons_zero,List.set_cons_succ];rfl)) (h9 (b5,b6) _ ⟨hHeld,(kb b3),(kb b4),(kb d7),(kb d8),e3.out,h1.out,c1.out,d3.out,d1.out,d5.out,e1.out,e2.out,e4.out,h2.out,d0.out,d4.out,d2.out,d6.out,(bl HB)⟩)
       skip
       rintro b5 o2 ⟨hS_,i1,i2,i3,j9,l5,l6,l7,l8,l9,m0⟩
       have d7:Aside0 (o2.heap[b5]? = some (.cells #[.int .i64 0,.int .i64 0] 23 (0,0))):=⟨i3⟩
       have e3:Aside0 (w.heap.size ≤ b5):=⟨j9⟩
       have h1:Aside0 (w.heap.size ≤ b5):=⟨l5⟩
       have c1:Aside0 (b7 ≠ b5):=⟨l6⟩
       have d3:Aside0 (b5 ≠ b7):=⟨l7⟩
       have d1:Aside0 (b8 ≠ b5):=⟨l8⟩
       have d5:Aside0 (b5 ≠ b8):=⟨l9⟩
       replace b3:Aside0 (o2.heap[b7]? = some (.cells #[.int .i64 e0,.int .i64 d9] 51 (0,0))):=⟨i1⟩
       replace b4:Aside0 (o2.heap[b8]? = some (.cells #[.slice (some b9) l0.length c0,.int .i64 a1] 94 (0,0))):=⟨i2⟩
       replace HB:Aside0 (Below w.heap.size w o2):=⟨m0⟩
       clear i1 i2 i3 j9 l5 l6 l7 l8 l9 m0
       have hHeld:o2.cell? (b2.add ((b0).toNat * 2)) = some (.int .i64 ((rd_T23 l2 b0).f0)) ∧ o2.cell? ⟨(b2.add ((b0).toNat * 2)).block,(b2.add ((b0).toNat * 2)).off + 1,none⟩ = some (.int .i64 ((rd_T23 l2 b0).f1)) ∧ o2.cell? (b2.add ((b1).toNat * 2)) = some (.int .i64 ((rd_T23 l2 b1).f0)) ∧ o2.cell? ⟨(b2.add ((b1).toNat * 2)).block,(b2.add ((b1).toNat * 2)).off + 1,none⟩ = some (.int .i64 ((rd_T23 l2 b1).f1)) ∧ o2.cell? (b9.add (b0).toNat) = some (.int .i64 (rd l0 b0)) ∧ o2.cell? (b9.add (b1).toNat) = some (.int .i64 (rd l0 b1)):=hS_
       refine norm_ (a':=?_) ?_ ?_
       rotate_left
       ·simp only [putAll,Act.put,List.setIfInBounds_toArray,List.set_cons_zero,List.set_cons_succ]
        rfl
       refine oq 22 14 8388607 HT_ (fun K hK=>?_)
       refine box_step ?hg (N:=14) ?hd (cs:=#[.int .i64 0,.int .i64 0]) (t:=23) ?hr ?_;(case hd=>rfl);(case hg=>rfl);(case hr=>first | (go_simp;done) | (go_simp;rfl))
       intro b6 hg q4 hbox hb
       have d8:=A_ hbox
       have e4:=gw hg HB
       have h2:=e4
       have d0:=nl hg b3
       have d4:=ng hg b3
       have d2:=nl hg b4
       have d6:=ng hg b4
       have e2:=nl hg d7
       have e1:=ng hg d7
       replace b3:=kB b3 hb
       replace b4:=kB b4 hb
       replace d7:=kB d7 hb
       replace HB:=bB HB hb
       clear hb hbox hg
       refine hK.out _ _ ⟨(cT HB e6),(cT HB e5),(cT HB e8),(cT HB e7),(cT HB e9),(cT HB h0)⟩ (fun hHeld=>?_)
       clear hK K
       refine nq 14 ?_
       exact norm_ (by first | (simp only [putAll,Act.put,List.setIfInBounds_toArray,List.set_cons_zero,List.set_cons_succ];done) | (simp only [putAll,Act.put,List.setIfInBounds_toArray,List.set_cons_zero,List.set_cons_succ];rfl)) (h9 (b5,b6) _ ⟨hHeld,(kb b3),(kb b4),(kb d7),(kb d8),e3.out,h1.out,c1.out,d3.out,d1.out,d5.out,e1.out,e2.out,e4.out,h2.out,d0.out,d4.out,d2.out,d6.out,(bl HB)⟩)
      rintro ⟨b5,b6⟩ q4 ⟨hS_,i1,i2,i3,j9,l5,l6,l7,l8,l9,m0,m7,m8,m9,n0,n1,n2,n3,n4,n5⟩
      have d7:Aside0 (q4.heap[b5]? = some (.cells #[.int .i64 0,.int .i64 0] 23 (0,0))):=⟨i3⟩
      have d8:Aside0 (q4.heap[b6]? = some (.cells #[.int .i64 0,.int .i64 0] 23 (0,0))):=⟨j9⟩
      have e3:Aside0 (w.heap.size ≤ b5):=⟨l5⟩
      have h1:Aside0 (w.heap.size ≤ b5):=⟨l6⟩
      have c1:Aside0 (b7 ≠ b5):=⟨l7⟩
      have d3:Aside0 (b5 ≠ b7):=⟨l8⟩
      have d1:Aside0 (b8 ≠ b5):=⟨l9⟩
      have d5:Aside0 (b5 ≠ b8):=⟨m0⟩
      have e1:Aside0 (b6 ≠ b5):=⟨m7⟩
      have e2:Aside0 (b5 ≠ b6):=⟨m8⟩
      have e4:Aside0 (w.heap.size ≤ b6):=⟨m9⟩
      have h2:Aside0 (w.heap.size ≤ b6):=⟨n0⟩
      have d0:Aside0 (b7 ≠ b6):=⟨n1⟩
      have d4:Aside0 (b6 ≠ b7):=⟨n2⟩
      have d2:Aside0 (b8 ≠ b6):=⟨n3⟩
      have d6:Aside0 (b6 ≠ b8):=⟨n4⟩
      replace b3:Aside0 (q4.heap[b7]? = some (.cells #[.int .i64 e0,.int .i64 d9] 51 (0,0))):=⟨i1⟩
      replace b4:Aside0 (q4.heap[b8]? = some (.cells #[.slice (some b9) l0.length c0,.int .i64 a1] 94 (0,0))):=⟨i2⟩
      replace HB:Aside0 (Below w.heap.size w q4):=⟨n5⟩
      clear i1 i2 i3 j9 l5 l6 l7 l8 l9 m0 m7 m8 m9 n0 n1 n2 n3 n4 n5
      have hHeld:q4.cell? (b2.add ((b0).toNat * 2)) = some (.int .i64 ((rd_T23 l2 b0).f0)) ∧ q4.cell? ⟨(b2.add ((b0).toNat * 2)).block,(b2.add ((b0).toNat * 2)).off + 1,none⟩ = some (.int .i64 ((rd_T23 l2 b0).f1)) ∧ q4.cell? (b2.add ((b1).toNat * 2)) = some (.int .i64 ((rd_T23 l2 b1).f0)) ∧ q4.cell? ⟨(b2.add ((b1).toNat * 2)).block,(b2.add ((b1).toNat * 2)).off + 1,none⟩ = some (.int .i64 ((rd_T23 l2 b1).f1)) ∧ q4.cell? (b9.add (b0).toNat) = some (.int .i64 (rd l0 b0)) ∧ q4.cell? (b9.add (b1).toNat) = some (.int .i64 (rd l0 b1)):=hS_
      refine norm_ (a':=?_) ?_ ?_
      rotate_left
      ·simp only [putAll,Act.put,List.setIfInBounds_toArray,List.set_cons_zero,List.set_cons_succ]
       rfl
      refine one_ (i:=23) (N:=none) (ba 25 16777215) rfl rfl (one_of HT_.out (by kernel_rfl)) (by decide) (fun K hK=>?_)
      have S9:q4.cell? ⟨b5,0,none⟩ = some (.int .i64 0):=cz d7 0
      have Q3:=blk_frozen d7.out 0
      have G9:=c1.out
      have H0:=d1.out
      have H1:=e1.out
      have H2:=d3.out
      have H3:=d5.out
      have H4:=e2.out
      have T0:q4.cell? ⟨b5,1,none⟩ = some (.int .i64 0):=cz d7 1
      have Q4:=blk_frozen d7.out 1
      have H5:=c1.out
      have H6:=d1.out
      have H7:=e1.out
      have H8:=d3.out
      have H9:=d5.out
      have I0:=e2.out
      refine skip_ (w1:=?_) (by rfl) rfl ?_ ?_
      rotate_left
      ·go_simp
       rfl
      refine hK.out _ _ ⟨((cf9 e6 e3).trans (((cf9 e6 e3).trans (hHeld.1)))),((cf9 e5 e3).trans (((cf9 e5 e3).trans (hHeld.2.1)))),((cf9 e8 e3).trans (((cf9 e8 e3).trans (hHeld.2.2.1)))),((cf9 e7 e3).trans (((cf9 e7 e3).trans (hHeld.2.2.2.1)))),((cf9 e9 e3).trans (((cf9 e9 e3).trans (hHeld.2.2.2.2.1)))),((cf9 h0 e3).trans (((cf9 h0 e3).trans (hHeld.2.2.2.2.2))))⟩ (fun hHeld=>?_)
      clear hK K
      refine one_ (i:=24) (N:=none) (ba 25 33554431) rfl rfl (one_of HT_.out (by kernel_rfl)) (by decide) (fun K hK=>?_)
      have U0:q4.cell? ⟨b6,0,none⟩ = some (.int .i64 0):=cz d8 0
      have Q5:=blk_frozen d8.out 0
      have I1:=d0.out
      have I2:=d2.out
      have I3:=e2.out
      have I4:=d4.out
      have I5:=d6.out
      have I6:=e1.out
      have U1:q4.cell? ⟨b6,1,none⟩ = some (.int .i64 0):=cz d8 1
      have Q6:=blk_frozen d8.out 1
      have I7:=d0.out
      have I8:=d2.out
      have I9:=e2.out
      have J0:=d4.out
      have J1:=d6.out
      have J2:=e1.out
      refine skip_ (w1:=?_) (by rfl) rfl ?_ ?_
      rotate_left
      ·go_simp
       rfl
      refine hK.out _ _ ⟨((cf9 e6 e4).trans (((cf9 e6 e4).trans (hHeld.1)))),((cf9 e5 e4).trans (((cf9 e5 e4).trans (hHeld.2.1)))),((cf9 e8 e4).trans (((cf9 e8 e4).trans (hHeld.2.2.1)))),((cf9 e7 e4).trans (((cf9 e7 e4).trans (hHeld.2.2.2.1)))),((cf9 e9 e4).trans (((cf9 e9 e4).trans (hHeld.2.2.2.2.1)))),((cf9 h0 e4).trans (((cf9 h0 e4).trans (hHeld.2.2.2.2.2))))⟩ (fun hHeld=>?_)
      clear hK K
      refine done_ (done_of HT_.out (by kernel_rfl)) ?_
      try go_wp2
      have x3:Aside0 (((((q4.setCell ⟨b5,0,none⟩ (.int .i64 h3)).setCell ⟨b5,1,none⟩ (.int .i64 h5)).setCell ⟨b6,0,none⟩ (.int .i64 h4)).setCell ⟨b6,1,none⟩ (.int .i64 h6)).heap[b7]? = some (.cells #[.int .i64 e0,.int .i64 d9] 51 (0,0))):=⟨by (with_reducible repeat (first | refine blk_drewN ?_ _ | refine blk_drew ?_ | refine blk_alloc ?_ _));refine blk_far ?_ d0.out _;(with_reducible repeat (first | refine blk_drewN ?_ _ | refine blk_drew ?_ | refine blk_alloc ?_ _));refine blk_far ?_ d0.out _;(with_reducible repeat (first | refine blk_drewN ?_ _ | refine blk_drew ?_ | refine blk_alloc ?_ _));refine blk_far ?_ c1.out _;(with_reducible repeat (first | refine blk_drewN ?_ _ | refine blk_drew ?_ | refine blk_alloc ?_ _));refine blk_far ?_ c1.out _;(with_reducible repeat (first | refine blk_drewN ?_ _ | refine blk_drew ?_ | refine blk_alloc ?_ _));exact b3.out⟩
      have x4:Aside0 (((((q4.setCell ⟨b5,0,none⟩ (.int .i64 h3)).setCell ⟨b5,1,none⟩ (.int .i64 h5)).setCell ⟨b6,0,none⟩ (.int .i64 h4)).setCell ⟨b6,1,none⟩ (.int .i64 h6)).heap[b8]? = some (.cells #[.slice (some b9) l0.length c0,.int .i64 a1] 94 (0,0))):=⟨by (with_reducible repeat (first | refine blk_drewN ?_ _ | refine blk_drew ?_ | refine blk_alloc ?_ _));refine blk_far ?_ d2.out _;(with_reducible repeat (first | refine blk_drewN ?_ _ | refine blk_drew ?_ | refine blk_alloc ?_ _));refine blk_far ?_ d2.out _;(with_reducible repeat (first | refine blk_drewN ?_ _ | refine blk_drew ?_ | refine blk_alloc ?_ _));refine blk_far ?_ d1.out _;(with_reducible repeat (first | refine blk_drewN ?_ _ | refine blk_drew ?_ | refine blk_alloc ?_ _));refine blk_far ?_ d1.out _;(with_reducible repeat (first | refine blk_drewN ?_ _ | refine blk_drew ?_ | refine blk_alloc ?_ _));exact b4.out⟩
      have x5:Aside0 (((((q4.setCell ⟨b5,0,none⟩ (.int .i64 h3)).setCell ⟨b5,1,none⟩ (.int .i64 h5)).setCell ⟨b6,0,none⟩ (.int .i64 h4)).setCell ⟨b6,1,none⟩ (.int .i64 h6)).heap[b5]? = some (.cells #[.int .i64 h3,.int .i64 h5] 23 (0,0))):=⟨by (with_reducible repeat (first | refine blk_drewN ?_ _ | refine blk_drew ?_ | refine blk_alloc ?_ _));refine blk_far ?_ e2.out _;(with_reducible repeat (first | refine blk_drewN ?_ _ | refine blk_drew ?_ | refine blk_alloc ?_ _));refine blk_far ?_ e2.out _;(with_reducible repeat (first | refine blk_drewN ?_ _ | refine blk_drew ?_ | refine blk_alloc ?_ _));refine blk_put (cs:=#[.int .i64 h3,.int .i64 0]) ?_ 1 _ rfl;(with_reducible repeat (first | refine blk_drewN ?_ _ | refine blk_drew ?_ | refine blk_alloc ?_ _));refine blk_put (cs:=#[.int .i64 0,.int .i64 0]) ?_ 0 _ rfl;(with_reducible repeat (first | refine blk_drewN ?_ _ | refine blk_drew ?_ | refine blk_alloc ?_ _));exact d7.out⟩
      have x6:Aside0 (((((q4.setCell ⟨b5,0,none⟩ (.int .i64 h3)).setCell ⟨b5,1,none⟩ (.int .i64 h5)).setCell ⟨b6,0,none⟩ (.int .i64 h4)).setCell ⟨b6,1,none⟩ (.int .i64 h6)).heap[b6]? = some (.cells #[.int .i64 h4,.int .i64 h6] 23 (0,0))):=⟨by (with_reducible repeat (first | refine blk_drewN ?_ _ | refine blk_drew ?_ | refine blk_alloc ?_ _));refine blk_put (cs:=#[.int .i64 h4,.int .i64 0]) ?_ 1 _ rfl;(with_reducible repeat (first | refine blk_drewN ?_ _ | refine blk_drew ?_ | refine blk_alloc ?_ _));refine blk_put (cs:=#[.int .i64 0,.int .i64 0]) ?_ 0 _ rfl;(with_reducible repeat (first | refine blk_drewN ?_ _ | refine blk_drew ?_ | refine blk_alloc ?_ _));refine blk_far ?_ e1.out _;(with_reducible repeat (first | refine blk_drewN ?_ _ | refine blk_drew ?_ | refine blk_alloc ?_ _));refine blk_far ?_ e1.out _;(with_reducible repeat (first | refine blk_drewN ?_ _ | refine blk_drew ?_ | refine blk_alloc ?_ _));exact d8.out⟩
      have x7:Aside0 (Below w.heap.size w ((((q4.setCell ⟨b5,0,none⟩ (.int .i64 h3)).setCell ⟨b5,1,none⟩ (.int .i64 h5)).setCell ⟨b6,0,none⟩ (.int .i64 h4)).setCell ⟨b6,1,none⟩ (.int .i64 h6))):=⟨bl HB⟩
      generalize ((((q4.setCell ⟨b5,0,none⟩ (.int .i64 h3)).setCell ⟨b5,1,none⟩ (.int .i64 h5)).setCell ⟨b6,0,none⟩ (.int .i64 h4)).setCell ⟨b6,1,none⟩ (.int .i64 h6)) = U2 at x3 x4 x5 x6 x7 ⊢
      have b3:=x3
      have b4:=x4
      have d7:=x5
      have d8:=x6
      have HB:=x7
      clear x3 x4 x5 x6 x7
      replace b3:=kD b3
      replace b4:=kD b4
      replace d7:=kD d7
      replace d8:=kD d8
      replace HB:=bD HB
      have p5:0 ≤ (b0:Int):=oa_
      have p6:b0 < (l2.length:Int):=oa_
      obtain ⟨r0,s7,j5,j7⟩:=at_T23 t0.out b0 p5 p6
      have p7:=j7
      have p8:=j5
      obtain rfl:b2 = r0:=(by injection s7)
      replace j5:=cT HB j5
      replace j7:=cT HB j7
      replace p5:=eq_true p5
      replace p6:=eq_true p6
      have r5:0 ≤ (b1:Int):=oa_
      have r6:b1 < (l2.length:Int):=oa_
      obtain ⟨s9,x8,m4,m5⟩:=at_T23 t0.out b1 r5 r6
      have r7:=m5
      have r8:=m4
      obtain rfl:b2 = s9:=(by injection x8)
      replace m4:=cT HB m4
      replace m5:=cT HB m5
      replace r5:=eq_true r5
      replace r6:=eq_true r6
      refine start_ (n:=14) (S:=fun w'=>w'.cell? ⟨b5,0,none⟩ = some (.int .i64 h3) ∧ w'.cell? ⟨b5,1,none⟩ = some (.int .i64 h5) ∧ w'.cell? ⟨b6,0,none⟩ = some (.int .i64 h4) ∧ w'.cell? ⟨b6,1,none⟩ = some (.int .i64 h6) ∧ w'.cell? (b2.add ((b0).toNat * 2)) = some (.int .i64 ((rd_T23 l2 b0).f0)) ∧ w'.cell? ⟨(b2.add ((b0).toNat * 2)).block,(b2.add ((b0).toNat * 2)).off + 1,none⟩ = some (.int .i64 ((rd_T23 l2 b0).f1)) ∧ w'.cell? (b2.add ((b1).toNat * 2)) = some (.int .i64 ((rd_T23 l2 b1).f0)) ∧ w'.cell? ⟨(b2.add ((b1).toNat * 2)).block,(b2.add ((b1).toNat * 2)).off + 1,none⟩ = some (.int .i64 ((rd_T23 l2 b1).f1))) (ds:=[]) (ba 14 0) (by kernel_rfl) rfl rfl ⟨cz d7 0,cz d7 1,cz d8 0,cz d8 1,(cT HB p8),(cT HB p7),(cT HB r8),(cT HB r7)⟩ (fun hHeld=>?_);refine with_tabW shares_Agrees.tab13 shares_Agrees.bits13 (fun HT_ HW_=>?_)
      generalize U2.drew = V5 at b3 b4 d7 d8 HB j5 j7 m4 m5 hHeld ⊢
      refine pq 1 64 2 HT_ ?_
      refine pq 2 65 6 HT_ ?_
      refine pq 3 66 14 HT_ ?_
      refine tq 0 63 15 HT_ HW_ hHeld ?_
      refine tq 4 67 31 HT_ HW_ hHeld ?_
      refine pq 5 68 63 HT_ ?_
      refine pq 6 69 127 HT_ ?_
      refine pq 8 71 383 HT_ ?_
      refine pq 9 72 895 HT_ ?_
      refine pq 10 73 1919 HT_ ?_
      refine tq 7 70 2047 HT_ HW_ hHeld ?_
      refine tq 11 74 4095 HT_ HW_ hHeld ?_
      refine pq 12 75 8191 HT_ ?_
      refine pq 13 76 16383 HT_ ?_
      refine done_ (done_of HT_.out (by kernel_rfl)) ?_
      try go_wp2
      go_roundg k2
      case measure=>have:=D5.out;have:=E0.out;omega
      case rel=>exact ⟨(wrap64 (b1 + 1)),(e0),(d9),rf_,H',⟨by have:=D5.out;have:=E0.out;omega⟩,⟨dr_ b3⟩,⟨dr_ b4⟩,⟨bl HB⟩⟩
     rw [if_pos z1] at H
     have z8:(!(h4 == ((rd_T23 l2 b1).f0)) || (!(h6 == ((rd_T23 l2 b1).f1)))) = true:=z1
     clear z1
     simp only [Option.some.injEq,Prod.mk.injEq] at H
     obtain ⟨rfl,rfl,rfl,rfl⟩:=H
     try go_wp2
     replace b3:=kD b3
     replace b4:=kD b4
     replace HB:=bD HB
     have o5:0 ≤ (b0:Int):=oa_
     have o6:b0 < (l2.length:Int):=oa_
     obtain ⟨b2,s3,i4,i5⟩:=at_T23 t0.out b0 o5 o6
     have e5:=i5
     have e6:=i4
     cases s3
     replace i4:=cT HB i4
     replace i5:=cT HB i5
     replace o5:=eq_true o5
     replace o6:=eq_true o6
     have o7:0 ≤ (b1:Int):=oa_
     have o8:b1 < (l2.length:Int):=oa_
     obtain ⟨q7,s4,i6,i7⟩:=at_T23 t0.out b1 o7 o8
     have e7:=i7
     have e8:=i6
     obtain rfl:b2 = q7:=(by injection s4)
     replace i6:=cT HB i6
     replace i7:=cT HB i7
     replace o7:=eq_true o7
     replace o8:=eq_true o8
     have o9:0 ≤ (b0:Int):=oa_
     have p0:b0 < (l0.length:Int):=oa_
     obtain ⟨b9,s5,i8⟩:=Kd.at_int t6.out b0 o9 p0
     have e9:=i8
     cases s5
     replace i8:=cT HB i8
     replace o9:=eq_true o9
     replace p0:=eq_true p0
     have p1:0 ≤ (b1:Int):=oa_
     have p2:b1 < (l0.length:Int):=oa_
     obtain ⟨q8,s6,i9⟩:=Kd.at_int t6.out b1 p1 p2
     have h0:=i9
     obtain rfl:b9 = q8:=(by injection s6)
     replace i9:=cT HB i9
     replace p1:=eq_true p1
     replace p2:=eq_true p2
     refine start_ (n:=25) (S:=fun w'=>w'.cell? (b2.add ((b0).toNat * 2)) = some (.int .i64 ((rd_T23 l2 b0).f0)) ∧ w'.cell? ⟨(b2.add ((b0).toNat * 2)).block,(b2.add ((b0).toNat * 2)).off + 1,none⟩ = some (.int .i64 ((rd_T23 l2 b0).f1)) ∧ w'.cell? (b2.add ((b1).toNat * 2)) = some (.int .i64 ((rd_T23 l2 b1).f0)) ∧ w'.cell? ⟨(b2.add ((b1).toNat * 2)).block,(b2.add ((b1).toNat * 2)).off + 1,none⟩ = some (.int .i64 ((rd_T23 l2 b1).f1)) ∧ w'.cell? (b9.add (b0).toNat) = some (.int .i64 (rd l0 b0)) ∧ w'.cell? (b9.add (b1).toNat) = some (.int .i64 (rd l0 b1))) (ds:=[]) (ba 25 0) (by kernel_rfl) rfl rfl ⟨(cT HB e6),(cT HB e5),(cT HB e8),(cT HB e7),(cT HB e9),(cT HB h0)⟩ (fun hHeld=>?_);refine with_tabW shares_Agrees.tab12 shares_Agrees.bits12 (fun HT_ HW_=>?_)
     generalize wr.drew = V6 at b3 b4 HB i4 i5 i6 i7 i8 i9 hHeld ⊢
     refine pq 0 43 1 HT_ ?_
     refine pq 1 44 3 HT_ ?_
     refine pq 2 45 7 HT_ ?_
     refine pq 4 47 23 HT_ ?_
     refine pq 5 48 55 HT_ ?_
     refine pq 6 49 119 HT_ ?_
     refine pq 9 52 631 HT_ ?_
     refine pq 10 53 1655 HT_ ?_
     refine pq 11 54 3703 HT_ ?_
     refine pq 13 56 11895 HT_ ?_
     refine pq 14 57 28279 HT_ ?_
     refine pq 15 58 61047 HT_ ?_
     refine tq 3 46 61055 HT_ HW_ hHeld ?_
     refine tq 7 50 61183 HT_ HW_ hHeld ?_
     refine tq 12 55 65279 HT_ HW_ hHeld ?_
     refine tq 16 59 130815 HT_ HW_ hHeld ?_
     refine join_ (σ:=Nat × Nat) 2 (ba 25 8388607) (fun s_=>[(51,.agg #[.int .i64 h7,.int .i64 h8]),(60,.tuple #[.agg #[.int .i64 h3,.int .i64 h5],.agg #[.int .i64 h4,.int .i64 h6]]),(13,.pointer (some ⟨s_.1,0,none⟩)),(14,.pointer (some ⟨s_.2,0,none⟩)),(42,.tuple #[.agg #[.int .i64 h3,.int .i64 h5],.agg #[.int .i64 h4,.int .i64 h6]]),(61,.agg #[.int .i64 h3,.int .i64 h5]),(62,.agg #[.int .i64 h4,.int .i64 h6])]) (fun s_ w'=>(w'.cell? (b2.add ((b0).toNat * 2)) = some (.int .i64 ((rd_T23 l2 b0).f0)) ∧ w'.cell? ⟨(b2.add ((b0).toNat * 2)).block,(b2.add ((b0).toNat * 2)).off + 1,none⟩ = some (.int .i64 ((rd_T23 l2 b0).f1)) ∧ w'.cell? (b2.add ((b1).toNat * 2)) = some (.int .i64 ((rd_T23 l2 b1).f0)) ∧ w'.cell? ⟨(b2.add ((b1).toNat * 2)).block,(b2.add ((b1).toNat * 2)).off + 1,none⟩ = some (.int .i64 ((rd_T23 l2 b1).f1)) ∧ w'.cell? (b9.add (b0).toNat) = some (.int .i64 (rd l0 b0)) ∧ w'.cell? (b9.add (b1).toNat) = some (.int .i64 (rd l0 b1))) ∧ (w'.heap[b7]? = some (.cells #[.int .i64 e0,.int .i64 d9] 51 (0,0))) ∧ (w'.heap[b8]? = some (.cells #[.slice (some b9) l0.length c0,.int .i64 a1] 94 (0,0))) ∧ (w'.heap[s_.1]? = some (.cells #[.int .i64 0,.int .i64 0] 23 (0,0))) ∧ (w'.heap[s_.2]? = some (.cells #[.int .i64 0,.int .i64 0] 23 (0,0))) ∧ (w.heap.size ≤ s_.1) ∧ (w.heap.size ≤ s_.1) ∧ (b7 ≠ s_.1) ∧ (s_.1 ≠ b7) ∧ (b8 ≠ s_.1) ∧ (s_.1 ≠ b8) ∧ (s_.2 ≠ s_.1) ∧ (s_.1 ≠ s_.2) ∧ (w.heap.size ≤ s_.2) ∧ (w.heap.size ≤ s_.2) ∧ (b7 ≠ s_.2) ∧ (s_.2 ≠ b7) ∧ (b8 ≠ s_.2) ∧ (s_.2 ≠ b8) ∧ (Below w.heap.size w w')) ?_ ?_
     rotate_left
     ·intro h9
      refine join_ (σ:=Nat) 3 (ba 25 4194303) (fun s_=>[(51,.agg #[.int .i64 h7,.int .i64 h8]),(60,.tuple #[.agg #[.int .i64 h3,.int .i64 h5],.agg #[.int .i64 h4,.int .i64 h6]]),(13,.pointer (some ⟨s_,0,none⟩)),(42,.tuple #[.agg #[.int .i64 h3,.int .i64 h5],.agg #[.int .i64 h4,.int .i64 h6]]),(61,.agg #[.int .i64 h3,.int .i64 h5]),(62,.agg #[.int .i64 h4,.int .i64 h6])]) (fun s_ w'=>(w'.cell? (b2.add ((b0).toNat * 2)) = some (.int .i64 ((rd_T23 l2 b0).f0)) ∧ w'.cell? ⟨(b2.add ((b0).toNat * 2)).block,(b2.add ((b0).toNat * 2)).off + 1,none⟩ = some (.int .i64 ((rd_T23 l2 b0).f1)) ∧ w'.cell? (b2.add ((b1).toNat * 2)) = some (.int .i64 ((rd_T23 l2 b1).f0)) ∧ w'.cell? ⟨(b2.add ((b1).toNat * 2)).block,(b2.add ((b1).toNat * 2)).off + 1,none⟩ = some (.int .i64 ((rd_T23 l2 b1).f1)) ∧ w'.cell? (b9.add (b0).toNat) = some (.int .i64 (rd l0 b0)) ∧ w'.cell? (b9.add (b1).toNat) = some (.int .i64 (rd l0 b1))) ∧ (w'.heap[b7]? = some (.cells #[.int .i64 e0,.int .i64 d9] 51 (0,0))) ∧ (w'.heap[b8]? = some (.cells #[.slice (some b9) l0.length c0,.int .i64 a1] 94 (0,0))) ∧ (w'.heap[s_]? = some (.cells #[.int .i64 0,.int .i64 0] 23 (0,0))) ∧ (w.heap.size ≤ s_) ∧ (w.heap.size ≤ s_) ∧ (b7 ≠ s_) ∧ (s_ ≠ b7) ∧ (b8 ≠ s_) ∧ (s_ ≠ b8) ∧ (Below w.heap.size w w')) ?_ ?_
      rotate_left
      ·intro m2
       refine join_ (σ:=Nat) 3 (ba 25 6291455) (fun s_=>[(51,.agg #[.int .i64 h7,.int .i64 h8]),(60,.tuple #[.agg #[.int .i64 h3,.int .i64 h5],.agg #[.int .i64 h4,.int .i64 h6]]),(14,.pointer (some ⟨s_,0,none⟩)),(42,.tuple #[.agg #[.int .i64 h3,.int .i64 h5],.agg #[.int .i64 h4,.int .i64 h6]]),(61,.agg #[.int .i64 h3,.int .i64 h5]),(62,.agg #[.int .i64 h4,.int .i64 h6])]) (fun s_ w'=>(w'.cell? (b2.add ((b0).toNat * 2)) = some (.int .i64 ((rd_T23 l2 b0).f0)) ∧ w'.cell? ⟨(b2.add ((b0).toNat * 2)).block,(b2.add ((b0).toNat * 2)).off + 1,none⟩ = some (.int .i64 ((rd_T23 l2 b0).f1)) ∧ w'.cell? (b2.add ((b1).toNat * 2)) = some (.int .i64 ((rd_T23 l2 b1).f0)) ∧ w'.cell? ⟨(b2.add ((b1).toNat * 2)).block,(b2.add ((b1).toNat * 2)).off + 1,none⟩ = some (.int .i64 ((rd_T23 l2 b1).f1)) ∧ w'.cell? (b9.add (b0).toNat) = some (.int .i64 (rd l0 b0)) ∧ w'.cell? (b9.add (b1).toNat) = some (.int .i64 (rd l0 b1))) ∧ (w'.heap[b7]? = some (.cells #[.int .i64 e0,.int .i64 d9] 51 (0,0))) ∧ (w'.heap[b8]? = some (.cells #[.slice (some b9) l0.length c0,.int .i64 a1] 94 (0,0))) ∧ (w'.heap[s_]? = some (.cells #[.int .i64 0,.int .i64 0] 23 (0,0))) ∧ (w.heap.size ≤ s_) ∧ (w.heap.size ≤ s_) ∧ (b7 ≠ s_) ∧ (s_ ≠ b7) ∧ (b8 ≠ s_) ∧ (s_ ≠ b8) ∧ (Below w.heap.size w w')) ?_ ?_
       rotate_left
       ·intro m3
        refine join_ (σ:=Nat × Nat) 6 (ba 25 6422527) (fun s_=>[(51,.agg #[.int .i64 h7,.int .i64 h8]),(13,.pointer (some ⟨s_.1,0,none⟩)),(14,.pointer (some ⟨s_.2,0,none⟩))]) (fun s_ w'=>(w'.cell? (b2.add ((b0).toNat * 2)) = some (.int .i64 ((rd_T23 l2 b0).f0)) ∧ w'.cell? ⟨(b2.add ((b0).toNat * 2)).block,(b2.add ((b0).toNat * 2)).off + 1,none⟩ = some (.int .i64 ((rd_T23 l2 b0).f1)) ∧ w'.cell? (b2.add ((b1).toNat * 2)) = some (.int .i64 ((rd_T23 l2 b1).f0)) ∧ w'.cell? ⟨(b2.add ((b1).toNat * 2)).block,(b2.add ((b1).toNat * 2)).off + 1,none⟩ = some (.int .i64 ((rd_T23 l2 b1).f1)) ∧ w'.cell? (b9.add (b0).toNat) = some (.int .i64 (rd l0 b0)) ∧ w'.cell? (b9.add (b1).toNat) = some (.int .i64 (rd l0 b1))) ∧ (w'.heap[b7]? = some (.cells #[.int .i64 e0,.int .i64 d9] 51 (0,0))) ∧ (w'.heap[b8]? = some (.cells #[.slice (some b9) l0.length c0,.int .i64 a1] 94 (0,0))) ∧ (w'.heap[s_.1]? = some (.cells #[.int .i64 0,.int .i64 0] 23 (0,0))) ∧ (w'.heap[s_.2]? = some (.cells #[.int .i64 0,.int .i64 0] 23 (0,0))) ∧ (w.heap.size ≤ s_.1) ∧ (w.heap.size ≤ s_.1) ∧ (b7 ≠ s_.1) ∧ (s_.1 ≠ b7) ∧ (b8 ≠ s_.1) ∧ (s_.1 ≠ b8) ∧ (s_.2 ≠ s_.1) ∧ (s_.1 ≠ s_.2) ∧ (w.heap.size ≤ s_.2) ∧ (w.heap.size ≤ s_.2) ∧ (b7 ≠ s_.2) ∧ (s_.2 ≠ b7) ∧ (b8 ≠ s_.2) ∧ (s_.2 ≠ b8) ∧ (Below w.heap.size w w')) ?_ ?_
        rotate_left
        ·intro j8
         refine join_ (σ:=Unit) 4 (ba 25 2097151) (fun s_=>[(51,.agg #[.int .i64 h7,.int .i64 h8]),(60,.tuple #[.agg #[.int .i64 h3,.int .i64 h5],.agg #[.int .i64 h4,.int .i64 h6]]),(42,.tuple #[.agg #[.int .i64 h3,.int .i64 h5],.agg #[.int .i64 h4,.int .i64 h6]]),(61,.agg #[.int .i64 h3,.int .i64 h5]),(62,.agg #[.int .i64 h4,.int .i64 h6])]) (fun s_ w'=>(w'.cell? (b2.add ((b0).toNat * 2)) = some (.int .i64 ((rd_T23 l2 b0).f0)) ∧ w'.cell? ⟨(b2.add ((b0).toNat * 2)).block,(b2.add ((b0).toNat * 2)).off + 1,none⟩ = some (.int .i64 ((rd_T23 l2 b0).f1)) ∧ w'.cell? (b2.add ((b1).toNat * 2)) = some (.int .i64 ((rd_T23 l2 b1).f0)) ∧ w'.cell? ⟨(b2.add ((b1).toNat * 2)).block,(b2.add ((b1).toNat * 2)).off + 1,none⟩ = some (.int .i64 ((rd_T23 l2 b1).f1)) ∧ w'.cell? (b9.add (b0).toNat) = some (.int .i64 (rd l0 b0)) ∧ w'.cell? (b9.add (b1).toNat) = some (.int .i64 (rd l0 b1))) ∧ (w'.heap[b7]? = some (.cells #[.int .i64 e0,.int .i64 d9] 51 (0,0))) ∧ (w'.heap[b8]? = some (.cells #[.slice (some b9) l0.length c0,.int .i64 a1] 94 (0,0))) ∧ (Below w.heap.size w w')) ?_ ?_
         rotate_left
         ·intro q9
          refine join_ (σ:=Nat) 7 (ba 25 2228223) (fun s_=>[(51,.agg #[.int .i64 h7,.int .i64 h8]),(13,.pointer (some ⟨s_,0,none⟩))]) (fun s_ w'=>(w'.cell? (b2.add ((b0).toNat * 2)) = some (.int .i64 ((rd_T23 l2 b0).f0)) ∧ w'.cell? ⟨(b2.add ((b0).toNat * 2)).block,(b2.add ((b0).toNat * 2)).off + 1,none⟩ = some (.int .i64 ((rd_T23 l2 b0).f1)) ∧ w'.cell? (b2.add ((b1).toNat * 2)) = some (.int .i64 ((rd_T23 l2 b1).f0)) ∧ w'.cell? ⟨(b2.add ((b1).toNat * 2)).block,(b2.add ((b1).toNat * 2)).off + 1,none⟩ = some (.int .i64 ((rd_T23 l2 b1).f1)) ∧ w'.cell? (b9.add (b0).toNat) = some (.int .i64 (rd l0 b0)) ∧ w'.cell? (b9.add (b1).toNat) = some (.int .i64 (rd l0 b1))) ∧ (w'.heap[b7]? = some (.cells #[.int .i64 e0,.int .i64 d9] 51 (0,0))) ∧ (w'.heap[b8]? = some (.cells #[.slice (some b9) l0.length c0,.int .i64 a1] 94 (0,0))) ∧ (w'.heap[s_]? = some (.cells #[.int .i64 0,.int .i64 0] 23 (0,0))) ∧ (w.heap.size ≤ s_) ∧ (w.heap.size ≤ s_) ∧ (b7 ≠ s_) ∧ (s_ ≠ b7) ∧ (b8 ≠ s_) ∧ (s_ ≠ b8) ∧ (Below w.heap.size w w')) ?_ ?_
          rotate_left
          ·intro p3
           refine join_ (σ:=Nat) 7 (ba 25 4325375) (fun s_=>[(51,.agg #[.int .i64 h7,.int .i64 h8]),(14,.pointer (some ⟨s_,0,none⟩))]) (fun s_ w'=>(w'.cell? (b2.add ((b0).toNat * 2)) = some (.int .i64 ((rd_T23 l2 b0).f0)) ∧ w'.cell? ⟨(b2.add ((b0).toNat * 2)).block,(b2.add ((b0).toNat * 2)).off + 1,none⟩ = some (.int .i64 ((rd_T23 l2 b0).f1)) ∧ w'.cell? (b2.add ((b1).toNat * 2)) = some (.int .i64 ((rd_T23 l2 b1).f0)) ∧ w'.cell? ⟨(b2.add ((b1).toNat * 2)).block,(b2.add ((b1).toNat * 2)).off + 1,none⟩ = some (.int .i64 ((rd_T23 l2 b1).f1)) ∧ w'.cell? (b9.add (b0).toNat) = some (.int .i64 (rd l0 b0)) ∧ w'.cell? (b9.add (b1).toNat) = some (.int .i64 (rd l0 b1))) ∧ (w'.heap[b7]? = some (.cells #[.int .i64 e0,.int .i64 d9] 51 (0,0))) ∧ (w'.heap[b8]? = some (.cells #[.slice (some b9) l0.length c0,.int .i64 a1] 94 (0,0))) ∧ (w'.heap[s_]? = some (.cells #[.int .i64 0,.int .i64 0] 23 (0,0))) ∧ (w.heap.size ≤ s_) ∧ (w.heap.size ≤ s_) ∧ (b7 ≠ s_) ∧ (s_ ≠ b7) ∧ (b8 ≠ s_) ∧ (s_ ≠ b8) ∧ (Below w.heap.size w w')) ?_ ?_
           rotate_left
           ·intro p4
            refine join_ (σ:=Nat × Nat) 7 (ba 25 6422271) (fun s_=>[(13,.pointer (some ⟨s_.1,0,none⟩)),(14,.pointer (some ⟨s_.2,0,none⟩))]) (fun s_ w'=>(w'.cell? (b2.add ((b0).toNat * 2)) = some (.int .i64 ((rd_T23 l2 b0).f0)) ∧ w'.cell? ⟨(b2.add ((b0).toNat * 2)).block,(b2.add ((b0).toNat * 2)).off + 1,none⟩ = some (.int .i64 ((rd_T23 l2 b0).f1)) ∧ w'.cell? (b2.add ((b1).toNat * 2)) = some (.int .i64 ((rd_T23 l2 b1).f0)) ∧ w'.cell? ⟨(b2.add ((b1).toNat * 2)).block,(b2.add ((b1).toNat * 2)).off + 1,none⟩ = some (.int .i64 ((rd_T23 l2 b1).f1)) ∧ w'.cell? (b9.add (b0).toNat) = some (.int .i64 (rd l0 b0)) ∧ w'.cell? (b9.add (b1).toNat) = some (.int .i64 (rd l0 b1))) ∧ (w'.heap[b7]? = some (.cells #[.int .i64 e0,.int .i64 d9] 51 (0,0))) ∧ (w'.heap[b8]? = some (.cells #[.slice (some b9) l0.length c0,.int .i64 a1] 94 (0,0))) ∧ (w'.heap[s_.1]? = some (.cells #[.int .i64 0,.int .i64 0] 23 (0,0))) ∧ (w'.heap[s_.2]? = some (.cells #[.int .i64 0,.int .i64 0] 23 (0,0))) ∧ (w.heap.size ≤ s_.1) ∧ (w.heap.size ≤ s_.1) ∧ (b7 ≠ s_.1) ∧ (s_.1 ≠ b7) ∧ (b8 ≠ s_.1) ∧ (s_.1 ≠ b8) ∧ (s_.2 ≠ s_.1) ∧ (s_.1 ≠ s_.2) ∧ (w.heap.size ≤ s_.2) ∧ (w.heap.size ≤ s_.2) ∧ (b7 ≠ s_.2) ∧ (s_.2 ≠ b7) ∧ (b8 ≠ s_.2) ∧ (s_.2 ≠ b8) ∧ (Below w.heap.size w w')) ?_ ?_
            rotate_left
            ·intro o0
             refine join_ (σ:=Unit) 8 (ba 25 131071) (fun s_=>[(51,.agg #[.int .i64 h7,.int .i64 h8])]) (fun s_ w'=>(w'.cell? (b2.add ((b0).toNat * 2)) = some (.int .i64 ((rd_T23 l2 b0).f0)) ∧ w'.cell? ⟨(b2.add ((b0).toNat * 2)).block,(b2.add ((b0).toNat * 2)).off + 1,none⟩ = some (.int .i64 ((rd_T23 l2 b0).f1)) ∧ w'.cell? (b2.add ((b1).toNat * 2)) = some (.int .i64 ((rd_T23 l2 b1).f0)) ∧ w'.cell? ⟨(b2.add ((b1).toNat * 2)).block,(b2.add ((b1).toNat * 2)).off + 1,none⟩ = some (.int .i64 ((rd_T23 l2 b1).f1)) ∧ w'.cell? (b9.add (b0).toNat) = some (.int .i64 (rd l0 b0)) ∧ w'.cell? (b9.add (b1).toNat) = some (.int .i64 (rd l0 b1))) ∧ (w'.heap[b7]? = some (.cells #[.int .i64 e0,.int .i64 d9] 51 (0,0))) ∧ (w'.heap[b8]? = some (.cells #[.slice (some b9) l0.length c0,.int .i64 a1] 94 (0,0))) ∧ (Below w.heap.size w w')) ?_ ?_
             rotate_left
             ·intro z7
              refine join_ (σ:=Nat) 8 (ba 25 2227967) (fun s_=>[(13,.pointer (some ⟨s_,0,none⟩))]) (fun s_ w'=>(w'.cell? (b2.add ((b0).toNat * 2)) = some (.int .i64 ((rd_T23 l2 b0).f0)) ∧ w'.cell? ⟨(b2.add ((b0).toNat * 2)).block,(b2.add ((b0).toNat * 2)).off + 1,none⟩ = some (.int .i64 ((rd_T23 l2 b0).f1)) ∧ w'.cell? (b2.add ((b1).toNat * 2)) = some (.int .i64 ((rd_T23 l2 b1).f0)) ∧ w'.cell? ⟨(b2.add ((b1).toNat * 2)).block,(b2.add ((b1).toNat * 2)).off + 1,none⟩ = some (.int .i64 ((rd_T23 l2 b1).f1)) ∧ w'.cell? (b9.add (b0).toNat) = some (.int .i64 (rd l0 b0)) ∧ w'.cell? (b9.add (b1).toNat) = some (.int .i64 (rd l0 b1))) ∧ (w'.heap[b7]? = some (.cells #[.int .i64 e0,.int .i64 d9] 51 (0,0))) ∧ (w'.heap[b8]? = some (.cells #[.slice (some b9) l0.length c0,.int .i64 a1] 94 (0,0))) ∧ (w'.heap[s_]? = some (.cells #[.int .i64 0,.int .i64 0] 23 (0,0))) ∧ (w.heap.size ≤ s_) ∧ (w.heap.size ≤ s_) ∧ (b7 ≠ s_) ∧ (s_ ≠ b7) ∧ (b8 ≠ s_) ∧ (s_ ≠ b8) ∧ (Below w.heap.size w w')) ?_ ?_
              rotate_left
              ·intro t9
               refine join_ (σ:=Nat) 8 (ba 25 4325119) (fun s_=>[(14,.pointer (some ⟨s_,0,none⟩))]) (fun s_ w'=>(w'.cell? (b2.add ((b0).toNat * 2)) = some (.int .i64 ((rd_T23 l2 b0).f0)) ∧ w'.cell? ⟨(b2.add ((b0).toNat * 2)).block,(b2.add ((b0).toNat * 2)).off + 1,none⟩ = some (.int .i64 ((rd_T23 l2 b0).f1)) ∧ w'.cell? (b2.add ((b1).toNat * 2)) = some (.int .i64 ((rd_T23 l2 b1).f0)) ∧ w'.cell? ⟨(b2.add ((b1).toNat * 2)).block,(b2.add ((b1).toNat * 2)).off + 1,none⟩ = some (.int .i64 ((rd_T23 l2 b1).f1)) ∧ w'.cell? (b9.add (b0).toNat) = some (.int .i64 (rd l0 b0)) ∧ w'.cell? (b9.add (b1).toNat) = some (.int .i64 (rd l0 b1))) ∧ (w'.heap[b7]? = some (.cells #[.int .i64 e0,.int .i64 d9] 51 (0,0))) ∧ (w'.heap[b8]? = some (.cells #[.slice (some b9) l0.length c0,.int .i64 a1] 94 (0,0))) ∧ (w'.heap[s_]? = some (.cells #[.int .i64 0,.int .i64 0] 23 (0,0))) ∧ (w.heap.size ≤ s_) ∧ (w.heap.size ≤ s_) ∧ (b7 ≠ s_) ∧ (s_ ≠ b7) ∧ (b8 ≠ s_) ∧ (s_ ≠ b8) ∧ (Below w.heap.size w w')) ?_ ?_
               rotate_left
               ·intro x1
                refine three_ (i:=8) (j:=21) (k:=22) (Ni:=some 51) (Nj:=some 13) (Nk:=some 14) (ba 25 131071) (ba 25 2227967) (ba 25 4325119) rfl rfl rfl rfl rfl rfl (three_of HT_.out (by kernel_rfl)) (by decide) (by decide) (by decide) (fun K hK=>?_) (fun K hK=>?_) (fun K hK=>?_)
                ·skip
                 refine gq Try.func88 #[.agg #[.int .i64 ((rd_T23 l2 b0).f0),.int .i64 ((rd_T23 l2 b0).f1)],.agg #[.int .i64 ((rd_T23 l2 b1).f0),.int .i64 ((rd_T23 l2 b1).f1)]] ?_
                 with_reducible refine (shares_add.calls k2 ((rd_T23 l2 b0).f0) ((rd_T23 l2 b0).f1) ((rd_T23 l2 b1).f0) ((rd_T23 l2 b1).f1) h7 h8 _ t1.out).mono ?_
                 rintro e Q7 ⟨rfl,hb⟩
                 refine ⟨_,rfl,?_⟩
                 replace b3:=kB b3 hb
                 replace b4:=kB b4 hb
                 replace HB:=bB HB hb
                 (try clear hb)
                 refine hK.out _ _ ⟨(cT HB e6),(cT HB e5),(cT HB e8),(cT HB e7),(cT HB e9),(cT HB h0)⟩ (fun hHeld=>?_)
                 clear hK K
                 refine nq 51 ?_
                 exact norm_ (by first | (simp only [putAll,Act.put,List.setIfInBounds_toArray,List.set_cons_zero,List.set_cons_succ];done) | (simp only [putAll,Act.put,List.setIfInBounds_toArray,List.set_cons_zero,List.set_cons_succ];rfl)) (z7 () _ ⟨hHeld,(kb b3),(kb b4),(bl HB)⟩)
                ·skip
                 refine box_step ?hg (N:=13) ?hd (cs:=#[.int .i64 0,.int .i64 0]) (t:=23) ?hr ?_;(case hd=>rfl);(case hg=>rfl);(case hr=>first | (go_simp;done) | (go_simp;rfl))
                 intro b5 hg Q7 hbox hb
                 have d7:=A_ hbox
                 have e3:=gw hg HB
                 have h1:=e3
                 have c1:=nl hg b3
                 have d3:=ng hg b3
                 have d1:=nl hg b4
                 have d5:=ng hg b4
                 replace b3:=kB b3 hb
                 replace b4:=kB b4 hb
                 replace HB:=bB HB hb
                 clear hb hbox hg
                 refine hK.out _ _ ⟨(cT HB e6),(cT HB e5),(cT HB e8),(cT HB e7),(cT HB e9),(cT HB h0)⟩ (fun hHeld=>?_)
                 clear hK K
                 refine nq 13 ?_
                 exact norm_ (by first | (simp only [putAll,Act.put,List.setIfInBounds_toArray,List.set_cons_zero,List.set_cons_succ];done) | (simp only [putAll,Act.put,List.setIfInBounds_toArray,List.set_cons_zero,List.set_cons_succ];rfl)) (t9 (b5) _ ⟨hHeld,(kb b3),(kb b4),(kb d7),e3.out,h1.out,c1.out,d3.out,d1.out,d5.out,(bl HB)⟩)
                skip
                refine box_step ?hg (N:=14) ?hd (cs:=#[.int .i64 0,.int .i64 0]) (t:=23) ?hr ?_;(case hd=>rfl);(case hg=>rfl);(case hr=>first | (go_simp;done) | (go_simp;rfl))
                intro b6 hg Q7 hbox hb
                have d8:=A_ hbox
                have e4:=gw hg HB
                have h2:=e4
                have d0:=nl hg b3
                have d4:=ng hg b3
                have d2:=nl hg b4
                have d6:=ng hg b4
                replace b3:=kB b3 hb
                replace b4:=kB b4 hb
                replace HB:=bB HB hb
                clear hb hbox hg
                refine hK.out _ _ ⟨(cT HB e6),(cT HB e5),(cT HB e8),(cT HB e7),(cT HB e9),(cT HB h0)⟩ (fun hHeld=>?_)
                clear hK K
                refine nq 14 ?_
                exact norm_ (by first | (simp only [putAll,Act.put,List.setIfInBounds_toArray,List.set_cons_zero,List.set_cons_succ];done) | (simp only [putAll,Act.put,List.setIfInBounds_toArray,List.set_cons_zero,List.set_cons_succ];rfl)) (x1 (b6) _ ⟨hHeld,(kb b3),(kb b4),(kb d8),e4.out,h2.out,d0.out,d4.out,d2.out,d6.out,(bl HB)⟩)
               skip
               rintro b6 q1 ⟨hS_,i1,i2,i3,j9,l5,l6,l7,l8,l9,m0⟩
               have d8:Aside0 (q1.heap[b6]? = some (.cells #[.int .i64 0,.int .i64 0] 23 (0,0))):=⟨i3⟩
               have e4:Aside0 (w.heap.size ≤ b6):=⟨j9⟩
               have h2:Aside0 (w.heap.size ≤ b6):=⟨l5⟩
               have d0:Aside0 (b7 ≠ b6):=⟨l6⟩
               have d4:Aside0 (b6 ≠ b7):=⟨l7⟩
               have d2:Aside0 (b8 ≠ b6):=⟨l8⟩
               have d6:Aside0 (b6 ≠ b8):=⟨l9⟩
               replace b3:Aside0 (q1.heap[b7]? = some (.cells #[.int .i64 e0,.int .i64 d9] 51 (0,0))):=⟨i1⟩
               replace b4:Aside0 (q1.heap[b8]? = some (.cells #[.slice (some b9) l0.length c0,.int .i64 a1] 94 (0,0))):=⟨i2⟩
               replace HB:Aside0 (Below w.heap.size w q1):=⟨m0⟩
               clear i1 i2 i3 j9 l5 l6 l7 l8 l9 m0
               have hHeld:q1.cell? (b2.add ((b0).toNat * 2)) = some (.int .i64 ((rd_T23 l2 b0).f0)) ∧ q1.cell? ⟨(b2.add ((b0).toNat * 2)).block,(b2.add ((b0).toNat * 2)).off + 1,none⟩ = some (.int .i64 ((rd_T23 l2 b0).f1)) ∧ q1.cell? (b2.add ((b1).toNat * 2)) = some (.int .i64 ((rd_T23 l2 b1).f0)) ∧ q1.cell? ⟨(b2.add ((b1).toNat * 2)).block,(b2.add ((b1).toNat * 2)).off + 1,none⟩ = some (.int .i64 ((rd_T23 l2 b1).f1)) ∧ q1.cell? (b9.add (b0).toNat) = some (.int .i64 (rd l0 b0)) ∧ q1.cell? (b9.add (b1).toNat) = some (.int .i64 (rd l0 b1)):=hS_
               refine norm_ (a':=?_) ?_ ?_
               rotate_left
               ·simp only [putAll,Act.put,List.setIfInBounds_toArray,List.set_cons_zero,List.set_cons_succ]
                rfl
               refine two_ (i:=8) (j:=21) (Ni:=some 51) (Nj:=some 13) (ba 25 4325375) (ba 25 6422271) rfl rfl rfl rfl (two_of HT_.out (by kernel_rfl)) (by decide) (by decide) (fun K hK=>?_) (fun K hK=>?_)
               ·skip
                refine gq Try.func88 #[.agg #[.int .i64 ((rd_T23 l2 b0).f0),.int .i64 ((rd_T23 l2 b0).f1)],.agg #[.int .i64 ((rd_T23 l2 b1).f0),.int .i64 ((rd_T23 l2 b1).f1)]] ?_
                with_reducible refine (shares_add.calls k2 ((rd_T23 l2 b0).f0) ((rd_T23 l2 b0).f1) ((rd_T23 l2 b1).f0) ((rd_T23 l2 b1).f1) h7 h8 _ t1.out).mono ?_
                rintro e n8 ⟨rfl,hb⟩
                refine ⟨_,rfl,?_⟩
                replace b3:=kB b3 hb
                replace b4:=kB b4 hb
                replace d8:=kB d8 hb
                replace HB:=bB HB hb
                (try clear hb)
                refine hK.out _ _ ⟨(cT HB e6),(cT HB e5),(cT HB e8),(cT HB e7),(cT HB e9),(cT HB h0)⟩ (fun hHeld=>?_)
                clear hK K
                refine nq 51 ?_
                exact norm_ (by first | (simp only [putAll,Act.put,List.setIfInBounds_toArray,List.set_cons_zero,List.set_cons_succ];done) | (simp only [putAll,Act.put,List.setIfInBounds_toArray,List.set_cons_zero,List.set_cons_succ];rfl)) (p4 (b6) _ ⟨hHeld,(kb b3),(kb b4),(kb d8),e4.out,h2.out,d0.out,d4.out,d2.out,d6.out,(bl HB)⟩)
               skip
               refine box_step ?hg (N:=13) ?hd (cs:=#[.int .i64 0,.int .i64 0]) (t:=23) ?hr ?_;(case hd=>rfl);(case hg=>rfl);(case hr=>first | (go_simp;done) | (go_simp;rfl))
               intro b5 hg n8 hbox hb
               have d7:=A_ hbox
               have e3:=gw hg HB
               have h1:=e3
               have c1:=nl hg b3
               have d3:=ng hg b3
               have d1:=nl hg b4
               have d5:=ng hg b4
               have e1:=nl hg d8
               have e2:=ng hg d8
               replace b3:=kB b3 hb
               replace b4:=kB b4 hb
               replace d8:=kB d8 hb
               replace HB:=bB HB hb
               clear hb hbox hg
               refine hK.out _ _ ⟨(cT HB e6),(cT HB e5),(cT HB e8),(cT HB e7),(cT HB e9),(cT HB h0)⟩ (fun hHeld=>?_)
               clear hK K
               refine nq 13 ?_
               exact norm_ (by first | (simp only [putAll,Act.put,List.setIfInBounds_toArray,List.set_cons_zero,List.set_cons_succ];done) | (simp only [putAll,Act.put,List.setIfInBounds_toArray,List.set_cons_zero,List.set_cons_succ];rfl)) (o0 (b5,b6) _ ⟨hHeld,(kb b3),(kb b4),(kb d7),(kb d8),e3.out,h1.out,c1.out,d3.out,d1.out,d5.out,e1.out,e2.out,e4.out,h2.out,d0.out,d4.out,d2.out,d6.out,(bl HB)⟩)
              skip
              rintro b5 q1 ⟨hS_,i1,i2,i3,j9,l5,l6,l7,l8,l9,m0⟩
              have d7:Aside0 (q1.heap[b5]? = some (.cells #[.int .i64 0,.int .i64 0] 23 (0,0))):=⟨i3⟩
              have e3:Aside0 (w.heap.size ≤ b5):=⟨j9⟩
              have h1:Aside0 (w.heap.size ≤ b5):=⟨l5⟩
              have c1:Aside0 (b7 ≠ b5):=⟨l6⟩
              have d3:Aside0 (b5 ≠ b7):=⟨l7⟩
              have d1:Aside0 (b8 ≠ b5):=⟨l8⟩
              have d5:Aside0 (b5 ≠ b8):=⟨l9⟩
              replace b3:Aside0 (q1.heap[b7]? = some (.cells #[.int .i64 e0,.int .i64 d9] 51 (0,0))):=⟨i1⟩
              replace b4:Aside0 (q1.heap[b8]? = some (.cells #[.slice (some b9) l0.length c0,.int .i64 a1] 94 (0,0))):=⟨i2⟩
              replace HB:Aside0 (Below w.heap.size w q1):=⟨m0⟩
              clear i1 i2 i3 j9 l5 l6 l7 l8 l9 m0
              have hHeld:q1.cell? (b2.add ((b0).toNat * 2)) = some (.int .i64 ((rd_T23 l2 b0).f0)) ∧ q1.cell? ⟨(b2.add ((b0).toNat * 2)).block,(b2.add ((b0).toNat * 2)).off + 1,none⟩ = some (.int .i64 ((rd_T23 l2 b0).f1)) ∧ q1.cell? (b2.add ((b1).toNat * 2)) = some (.int .i64 ((rd_T23 l2 b1).f0)) ∧ q1.cell? ⟨(b2.add ((b1).toNat * 2)).block,(b2.add ((b1).toNat * 2)).off + 1,none⟩ = some (.int .i64 ((rd_T23 l2 b1).f1)) ∧ q1.cell? (b9.add (b0).toNat) = some (.int .i64 (rd l0 b0)) ∧ q1.cell? (b9.add (b1).toNat) = some (.int .i64 (rd l0 b1)):=hS_
              refine norm_ (a':=?_) ?_ ?_
              rotate_left
              ·simp only [putAll,Act.put,List.setIfInBounds_toArray,List.set_cons_zero,List.set_cons_succ]
               rfl
              refine two_ (i:=8) (j:=22) (Ni:=some 51) (Nj:=some 14) (ba 25 2228223) (ba 25 6422271) rfl rfl rfl rfl (two_of HT_.out (by kernel_rfl)) (by decide) (by decide) (fun K hK=>?_) (fun K hK=>?_)
              ·skip
               refine gq Try.func88 #[.agg #[.int .i64 ((rd_T23 l2 b0).f0),.int .i64 ((rd_T23 l2 b0).f1)],.agg #[.int .i64 ((rd_T23 l2 b1).f0),.int .i64 ((rd_T23 l2 b1).f1)]] ?_
               with_reducible refine (shares_add.calls k2 ((rd_T23 l2 b0).f0) ((rd_T23 l2 b0).f1) ((rd_T23 l2 b1).f0) ((rd_T23 l2 b1).f1) h7 h8 _ t1.out).mono ?_
               rintro e n8 ⟨rfl,hb⟩
               refine ⟨_,rfl,?_⟩
               replace b3:=kB b3 hb
               replace b4:=kB b4 hb
               replace d7:=kB d7 hb
               replace HB:=bB HB hb
               (try clear hb)
               refine hK.out _ _ ⟨(cT HB e6),(cT HB e5),(cT HB e8),(cT HB e7),(cT HB e9),(cT HB h0)⟩ (fun hHeld=>?_)
               clear hK K
               refine nq 51 ?_
               exact norm_ (by first | (simp only [putAll,Act.put,List.setIfInBounds_toArray,List.set_cons_zero,List.set_cons_succ];done) | (simp only [putAll,Act.put,List.setIfInBounds_toArray,List.set_cons_zero,List.set_cons_succ];rfl)) (p3 (b5) _ ⟨hHeld,(kb b3),(kb b4),(kb d7),e3.out,h1.out,c1.out,d3.out,d1.out,d5.out,(bl HB)⟩)
              skip
              refine box_step ?hg (N:=14) ?hd (cs:=#[.int .i64 0,.int .i64 0]) (t:=23) ?hr ?_;(case hd=>rfl);(case hg=>rfl);(case hr=>first | (go_simp;done) | (go_simp;rfl))
              intro b6 hg n8 hbox hb
              have d8:=A_ hbox
              have e4:=gw hg HB
              have h2:=e4
              have d0:=nl hg b3
              have d4:=ng hg b3
              have d2:=nl hg b4
              have d6:=ng hg b4
              have e2:=nl hg d7
              have e1:=ng hg d7
              replace b3:=kB b3 hb
              replace b4:=kB b4 hb
              replace d7:=kB d7 hb
              replace HB:=bB HB hb
              clear hb hbox hg
              refine hK.out _ _ ⟨(cT HB e6),(cT HB e5),(cT HB e8),(cT HB e7),(cT HB e9),(cT HB h0)⟩ (fun hHeld=>?_)
              clear hK K
              refine nq 14 ?_
              exact norm_ (by first | (simp only [putAll,Act.put,List.setIfInBounds_toArray,List.set_cons_zero,List.set_cons_succ];done) | (simp only [putAll,Act.put,List.setIfInBounds_toArray,List.set_cons_zero,List.set_cons_succ];rfl)) (o0 (b5,b6) _ ⟨hHeld,(kb b3),(kb b4),(kb d7),(kb d8),e3.out,h1.out,c1.out,d3.out,d1.out,d5.out,e1.out,e2.out,e4.out,h2.out,d0.out,d4.out,d2.out,d6.out,(bl HB)⟩)
             skip
             rintro _ q1 ⟨hS_,i1,i2,i3⟩
             replace b3:Aside0 (q1.heap[b7]? = some (.cells #[.int .i64 e0,.int .i64 d9] 51 (0,0))):=⟨i1⟩
             replace b4:Aside0 (q1.heap[b8]? = some (.cells #[.slice (some b9) l0.length c0,.int .i64 a1] 94 (0,0))):=⟨i2⟩
             replace HB:Aside0 (Below w.heap.size w q1):=⟨i3⟩
             clear i1 i2 i3
             have hHeld:q1.cell? (b2.add ((b0).toNat * 2)) = some (.int .i64 ((rd_T23 l2 b0).f0)) ∧ q1.cell? ⟨(b2.add ((b0).toNat * 2)).block,(b2.add ((b0).toNat * 2)).off + 1,none⟩ = some (.int .i64 ((rd_T23 l2 b0).f1)) ∧ q1.cell? (b2.add ((b1).toNat * 2)) = some (.int .i64 ((rd_T23 l2 b1).f0)) ∧ q1.cell? ⟨(b2.add ((b1).toNat * 2)).block,(b2.add ((b1).toNat * 2)).off + 1,none⟩ = some (.int .i64 ((rd_T23 l2 b1).f1)) ∧ q1.cell? (b9.add (b0).toNat) = some (.int .i64 (rd l0 b0)) ∧ q1.cell? (b9.add (b1).toNat) = some (.int .i64 (rd l0 b1)):=hS_
             refine norm_ (a':=?_) ?_ ?_
             rotate_left
             ·simp only [putAll,Act.put,List.setIfInBounds_toArray,List.set_cons_zero,List.set_cons_succ]
              rfl
             refine three_ (i:=17) (j:=21) (k:=22) (Ni:=some 60) (Nj:=some 13) (Nk:=some 14) (ba 25 262143) (ba 25 2228223) (ba 25 4325375) rfl rfl rfl rfl rfl rfl (three_of HT_.out (by kernel_rfl)) (by decide) (by decide) (by decide) (fun K hK=>?_) (fun K hK=>?_) (fun K hK=>?_)
             ·skip
              refine gq Try.func63 #[.agg #[.int .i64 h7,.int .i64 h8],.int .i64 (rd l0 b0),.int .i64 (rd l0 b1)] ?_
              with_reducible refine (shares_garment.calls k2 h7 h8 (rd l0 b0) (rd l0 b1) h3 h5 h4 h6 _ t2.out).mono ?_
              rintro e n8 ⟨rfl,hb⟩
              refine ⟨_,rfl,?_⟩
              replace b3:=kB b3 hb
              replace b4:=kB b4 hb
              replace HB:=bB HB hb
              (try clear hb)
              refine hK.out _ _ ⟨(cT HB e6),(cT HB e5),(cT HB e8),(cT HB e7),(cT HB e9),(cT HB h0)⟩ (fun hHeld=>?_)
              clear hK K
              refine nq 60 ?_
              refine pq 18 42 524287 HT_ ?_
              refine pq 19 61 1048575 HT_ ?_
              refine pq 20 62 2097151 HT_ ?_
              exact norm_ (by first | (simp only [putAll,Act.put,List.setIfInBounds_toArray,List.set_cons_zero,List.set_cons_succ];done) | (simp only [putAll,Act.put,List.setIfInBounds_toArray,List.set_cons_zero,List.set_cons_succ];rfl)) (q9 () _ ⟨hHeld,(kb b3),(kb b4),(bl HB)⟩)
             ·skip
              refine box_step ?hg (N:=13) ?hd (cs:=#[.int .i64 0,.int .i64 0]) (t:=23) ?hr ?_;(case hd=>rfl);(case hg=>rfl);(case hr=>first | (go_simp;done) | (go_simp;rfl))
              intro b5 hg n8 hbox hb
              have d7:=A_ hbox
              have e3:=gw hg HB
              have h1:=e3
              have c1:=nl hg b3
              have d3:=ng hg b3
              have d1:=nl hg b4
              have d5:=ng hg b4
              replace b3:=kB b3 hb
              replace b4:=kB b4 hb
              replace HB:=bB HB hb
              clear hb hbox hg
              refine hK.out _ _ ⟨(cT HB e6),(cT HB e5),(cT HB e8),(cT HB e7),(cT HB e9),(cT HB h0)⟩ (fun hHeld=>?_)
              clear hK K
              refine nq 13 ?_
              exact norm_ (by first | (simp only [putAll,Act.put,List.setIfInBounds_toArray,List.set_cons_zero,List.set_cons_succ];done) | (simp only [putAll,Act.put,List.setIfInBounds_toArray,List.set_cons_zero,List.set_cons_succ];rfl)) (p3 (b5) _ ⟨hHeld,(kb b3),(kb b4),(kb d7),e3.out,h1.out,c1.out,d3.out,d1.out,d5.out,(bl HB)⟩)
             skip
             refine box_step ?hg (N:=14) ?hd (cs:=#[.int .i64 0,.int .i64 0]) (t:=23) ?hr ?_;(case hd=>rfl);(case hg=>rfl);(case hr=>first | (go_simp;done) | (go_simp;rfl))
             intro b6 hg n8 hbox hb
             have d8:=A_ hbox
             have e4:=gw hg HB
             have h2:=e4
             have d0:=nl hg b3
             have d4:=ng hg b3
             have d2:=nl hg b4
             have d6:=ng hg b4
             replace b3:=kB b3 hb
             replace b4:=kB b4 hb
             replace HB:=bB HB hb
             clear hb hbox hg
             refine hK.out _ _ ⟨(cT HB e6),(cT HB e5),(cT HB e8),(cT HB e7),(cT HB e9),(cT HB h0)⟩ (fun hHeld=>?_)
             clear hK K
             refine nq 14 ?_
             exact norm_ (by first | (simp only [putAll,Act.put,List.setIfInBounds_toArray,List.set_cons_zero,List.set_cons_succ];done) | (simp only [putAll,Act.put,List.setIfInBounds_toArray,List.set_cons_zero,List.set_cons_succ];rfl)) (p4 (b6) _ ⟨hHeld,(kb b3),(kb b4),(kb d8),e4.out,h2.out,d0.out,d4.out,d2.out,d6.out,(bl HB)⟩)
            skip
            rintro ⟨b5,b6⟩ n8 ⟨hS_,i1,i2,i3,j9,l5,l6,l7,l8,l9,m0,m7,m8,m9,n0,n1,n2,n3,n4,n5⟩
            have d7:Aside0 (n8.heap[b5]? = some (.cells #[.int .i64 0,.int .i64 0] 23 (0,0))):=⟨i3⟩
            have d8:Aside0 (n8.heap[b6]? = some (.cells #[.int .i64 0,.int .i64 0] 23 (0,0))):=⟨j9⟩
            have e3:Aside0 (w.heap.size ≤ b5):=⟨l5⟩
            have h1:Aside0 (w.heap.size ≤ b5):=⟨l6⟩
            have c1:Aside0 (b7 ≠ b5):=⟨l7⟩
            have d3:Aside0 (b5 ≠ b7):=⟨l8⟩
            have d1:Aside0 (b8 ≠ b5):=⟨l9⟩
            have d5:Aside0 (b5 ≠ b8):=⟨m0⟩
            have e1:Aside0 (b6 ≠ b5):=⟨m7⟩
            have e2:Aside0 (b5 ≠ b6):=⟨m8⟩
            have e4:Aside0 (w.heap.size ≤ b6):=⟨m9⟩
            have h2:Aside0 (w.heap.size ≤ b6):=⟨n0⟩
            have d0:Aside0 (b7 ≠ b6):=⟨n1⟩
            have d4:Aside0 (b6 ≠ b7):=⟨n2⟩
            have d2:Aside0 (b8 ≠ b6):=⟨n3⟩
            have d6:Aside0 (b6 ≠ b8):=⟨n4⟩
            replace b3:Aside0 (n8.heap[b7]? = some (.cells #[.int .i64 e0,.int .i64 d9] 51 (0,0))):=⟨i1⟩
            replace b4:Aside0 (n8.heap[b8]? = some (.cells #[.slice (some b9) l0.length c0,.int .i64 a1] 94 (0,0))):=⟨i2⟩
            replace HB:Aside0 (Below w.heap.size w n8):=⟨n5⟩
            clear i1 i2 i3 j9 l5 l6 l7 l8 l9 m0 m7 m8 m9 n0 n1 n2 n3 n4 n5
            have hHeld:n8.cell? (b2.add ((b0).toNat * 2)) = some (.int .i64 ((rd_T23 l2 b0).f0)) ∧ n8.cell? ⟨(b2.add ((b0).toNat * 2)).block,(b2.add ((b0).toNat * 2)).off + 1,none⟩ = some (.int .i64 ((rd_T23 l2 b0).f1)) ∧ n8.cell? (b2.add ((b1).toNat * 2)) = some (.int .i64 ((rd_T23 l2 b1).f0)) ∧ n8.cell? ⟨(b2.add ((b1).toNat * 2)).block,(b2.add ((b1).toNat * 2)).off + 1,none⟩ = some (.int .i64 ((rd_T23 l2 b1).f1)) ∧ n8.cell? (b9.add (b0).toNat) = some (.int .i64 (rd l0 b0)) ∧ n8.cell? (b9.add (b1).toNat) = some (.int .i64 (rd l0 b1)):=hS_
            refine norm_ (a':=?_) ?_ ?_
            rotate_left
            ·simp only [putAll,Act.put,List.setIfInBounds_toArray,List.set_cons_zero,List.set_cons_succ]
             rfl
            refine oq 8 51 6422527 HT_ (fun K hK=>?_)
            refine gq Try.func88 #[.agg #[.int .i64 ((rd_T23 l2 b0).f0),.int .i64 ((rd_T23 l2 b0).f1)],.agg #[.int .i64 ((rd_T23 l2 b1).f0),.int .i64 ((rd_T23 l2 b1).f1)]] ?_
            with_reducible refine (shares_add.calls k2 ((rd_T23 l2 b0).f0) ((rd_T23 l2 b0).f1) ((rd_T23 l2 b1).f0) ((rd_T23 l2 b1).f1) h7 h8 _ t1.out).mono ?_
            rintro e o3 ⟨rfl,hb⟩
            refine ⟨_,rfl,?_⟩
            replace b3:=kB b3 hb
            replace b4:=kB b4 hb
            replace d7:=kB d7 hb
            replace d8:=kB d8 hb
            replace HB:=bB HB hb
            (try clear hb)
            refine hK.out _ _ ⟨(cT HB e6),(cT HB e5),(cT HB e8),(cT HB e7),(cT HB e9),(cT HB h0)⟩ (fun hHeld=>?_)
            clear hK K
            refine nq 51 ?_
            exact norm_ (by first | (simp only [putAll,Act.put,List.setIfInBounds_toArray,List.set_cons_zero,List.set_cons_succ];done) | (simp only [putAll,Act.put,List.setIfInBounds_toArray,List.set_cons_zero,List.set_cons_succ];rfl)) (j8 (b5,b6) _ ⟨hHeld,(kb b3),(kb b4),(kb d7),(kb d8),e3.out,h1.out,c1.out,d3.out,d1.out,d5.out,e1.out,e2.out,e4.out,h2.out,d0.out,d4.out,d2.out,d6.out,(bl HB)⟩)
           skip
           rintro b6 n8 ⟨hS_,i1,i2,i3,j9,l5,l6,l7,l8,l9,m0⟩
           have d8:Aside0 (n8.heap[b6]? = some (.cells #[.int .i64 0,.int .i64 0] 23 (0,0))):=⟨i3⟩
           have e4:Aside0 (w.heap.size ≤ b6):=⟨j9⟩
           have h2:Aside0 (w.heap.size ≤ b6):=⟨l5⟩
           have d0:Aside0 (b7 ≠ b6):=⟨l6⟩
           have d4:Aside0 (b6 ≠ b7):=⟨l7⟩
           have d2:Aside0 (b8 ≠ b6):=⟨l8⟩
           have d6:Aside0 (b6 ≠ b8):=⟨l9⟩
           replace b3:Aside0 (n8.heap[b7]? = some (.cells #[.int .i64 e0,.int .i64 d9] 51 (0,0))):=⟨i1⟩
           replace b4:Aside0 (n8.heap[b8]? = some (.cells #[.slice (some b9) l0.length c0,.int .i64 a1] 94 (0,0))):=⟨i2⟩
           replace HB:Aside0 (Below w.heap.size w n8):=⟨m0⟩
           clear i1 i2 i3 j9 l5 l6 l7 l8 l9 m0
           have hHeld:n8.cell? (b2.add ((b0).toNat * 2)) = some (.int .i64 ((rd_T23 l2 b0).f0)) ∧ n8.cell? ⟨(b2.add ((b0).toNat * 2)).block,(b2.add ((b0).toNat * 2)).off + 1,none⟩ = some (.int .i64 ((rd_T23 l2 b0).f1)) ∧ n8.cell? (b2.add ((b1).toNat * 2)) = some (.int .i64 ((rd_T23 l2 b1).f0)) ∧ n8.cell? ⟨(b2.add ((b1).toNat * 2)).block,(b2.add ((b1).toNat * 2)).off + 1,none⟩ = some (.int .i64 ((rd_T23 l2 b1).f1)) ∧ n8.cell? (b9.add (b0).toNat) = some (.int .i64 (rd l0 b0)) ∧ n8.cell? (b9.add (b1).toNat) = some (.int .i64 (rd l0 b1)):=hS_
           refine norm_ (a':=?_) ?_ ?_
           rotate_left
           ·simp only [putAll,Act.put,List.setIfInBounds_toArray,List.set_cons_zero,List.set_cons_succ]
            rfl
           refine two_ (i:=17) (j:=21) (Ni:=some 60) (Nj:=some 13) (ba 25 4456447) (ba 25 6422527) rfl rfl rfl rfl (two_of HT_.out (by kernel_rfl)) (by decide) (by decide) (fun K hK=>?_) (fun K hK=>?_)
           ·skip
            refine gq Try.func63 #[.agg #[.int .i64 h7,.int .i64 h8],.int .i64 (rd l0 b0),.int .i64 (rd l0 b1)] ?_
            with_reducible refine (shares_garment.calls k2 h7 h8 (rd l0 b0) (rd l0 b1) h3 h5 h4 h6 _ t2.out).mono ?_
            rintro e o3 ⟨rfl,hb⟩
            refine ⟨_,rfl,?_⟩
            replace b3:=kB b3 hb
            replace b4:=kB b4 hb
            replace d8:=kB d8 hb
            replace HB:=bB HB hb
            (try clear hb)
            refine hK.out _ _ ⟨(cT HB e6),(cT HB e5),(cT HB e8),(cT HB e7),(cT HB e9),(cT HB h0)⟩ (fun hHeld=>?_)
            clear hK K
            refine nq 60 ?_
            refine pq 18 42 4718591 HT_ ?_
            refine pq 19 61 5242879 HT_ ?_
            refine pq 20 62 6291455 HT_ ?_
            exact norm_ (by first | (simp only [putAll,Act.put,List.setIfInBounds_toArray,List.set_cons_zero,List.set_cons_succ];done) | (simp only [putAll,Act.put,List.setIfInBounds_toArray,List.set_cons_zero,List.set_cons_succ];rfl)) (m3 (b6) _ ⟨hHeld,(kb b3),(kb b4),(kb d8),e4.out,h2.out,d0.out,d4.out,d2.out,d6.out,(bl HB)⟩)
           skip
           refine box_step ?hg (N:=13) ?hd (cs:=#[.int .i64 0,.int .i64 0]) (t:=23) ?hr ?_;(case hd=>rfl);(case hg=>rfl);(case hr=>first | (go_simp;done) | (go_simp;rfl))
           intro b5 hg o3 hbox hb
           have d7:=A_ hbox
           have e3:=gw hg HB
           have h1:=e3
           have c1:=nl hg b3
           have d3:=ng hg b3
           have d1:=nl hg b4
           have d5:=ng hg b4
           have e1:=nl hg d8
           have e2:=ng hg d8
           replace b3:=kB b3 hb
           replace b4:=kB b4 hb
           replace d8:=kB d8 hb
           replace HB:=bB HB hb
           clear hb hbox hg
           refine hK.out _ _ ⟨(cT HB e6),(cT HB e5),(cT HB e8),(cT HB e7),(cT HB e9),(cT HB h0)⟩ (fun hHeld=>?_)
           clear hK K
           refine nq 13 ?_
           exact norm_ (by first | (simp only [putAll,Act.put,List.setIfInBounds_toArray,List.set_cons_zero,List.set_cons_succ];done) | (simp only [putAll,Act.put,List.setIfInBounds_toArray,List.set_cons_zero,List.set_cons_succ];rfl)) (j8 (b5,b6) _ ⟨hHeld,(kb b3),(kb b4),(kb d7),(kb d8),e3.out,h1.out,c1.out,d3.out,d1.out,d5.out,e1.out,e2.out,e4.out,h2.out,d0.out,d4.out,d2.out,d6.out,(bl HB)⟩)
          skip
          rintro b5 n8 ⟨hS_,i1,i2,i3,j9,l5,l6,l7,l8,l9,m0⟩
          have d7:Aside0 (n8.heap[b5]? = some (.cells #[.int .i64 0,.int .i64 0] 23 (0,0))):=⟨i3⟩
          have e3:Aside0 (w.heap.size ≤ b5):=⟨j9⟩
          have h1:Aside0 (w.heap.size ≤ b5):=⟨l5⟩
          have c1:Aside0 (b7 ≠ b5):=⟨l6⟩
          have d3:Aside0 (b5 ≠ b7):=⟨l7⟩
          have d1:Aside0 (b8 ≠ b5):=⟨l8⟩
          have d5:Aside0 (b5 ≠ b8):=⟨l9⟩
          replace b3:Aside0 (n8.heap[b7]? = some (.cells #[.int .i64 e0,.int .i64 d9] 51 (0,0))):=⟨i1⟩
          replace b4:Aside0 (n8.heap[b8]? = some (.cells #[.slice (some b9) l0.length c0,.int .i64 a1] 94 (0,0))):=⟨i2⟩
          replace HB:Aside0 (Below w.heap.size w n8):=⟨m0⟩
          clear i1 i2 i3 j9 l5 l6 l7 l8 l9 m0
          have hHeld:n8.cell? (b2.add ((b0).toNat * 2)) = some (.int .i64 ((rd_T23 l2 b0).f0)) ∧ n8.cell? ⟨(b2.add ((b0).toNat * 2)).block,(b2.add ((b0).toNat * 2)).off + 1,none⟩ = some (.int .i64 ((rd_T23 l2 b0).f1)) ∧ n8.cell? (b2.add ((b1).toNat * 2)) = some (.int .i64 ((rd_T23 l2 b1).f0)) ∧ n8.cell? ⟨(b2.add ((b1).toNat * 2)).block,(b2.add ((b1).toNat * 2)).off + 1,none⟩ = some (.int .i64 ((rd_T23 l2 b1).f1)) ∧ n8.cell? (b9.add (b0).toNat) = some (.int .i64 (rd l0 b0)) ∧ n8.cell? (b9.add (b1).toNat) = some (.int .i64 (rd l0 b1)):=hS_
          refine norm_ (a':=?_) ?_ ?_
          rotate_left
          ·simp only [putAll,Act.put,List.setIfInBounds_toArray,List.set_cons_zero,List.set_cons_succ]
           rfl
          refine two_ (i:=17) (j:=22) (Ni:=some 60) (Nj:=some 14) (ba 25 2359295) (ba 25 6422527) rfl rfl rfl rfl (two_of HT_.out (by kernel_rfl)) (by decide) (by decide) (fun K hK=>?_) (fun K hK=>?_)
          ·skip
           refine gq Try.func63 #[.agg #[.int .i64 h7,.int .i64 h8],.int .i64 (rd l0 b0),.int .i64 (rd l0 b1)] ?_
           with_reducible refine (shares_garment.calls k2 h7 h8 (rd l0 b0) (rd l0 b1) h3 h5 h4 h6 _ t2.out).mono ?_
           rintro e o3 ⟨rfl,hb⟩
           refine ⟨_,rfl,?_⟩
           replace b3:=kB b3 hb
           replace b4:=kB b4 hb
           replace d7:=kB d7 hb
           replace HB:=bB HB hb
           (try clear hb)
           refine hK.out _ _ ⟨(cT HB e6),(cT HB e5),(cT HB e8),(cT HB e7),(cT HB e9),(cT HB h0)⟩ (fun hHeld=>?_)
           clear hK K
           refine nq 60 ?_
           refine pq 18 42 2621439 HT_ ?_
           refine pq 19 61 3145727 HT_ ?_
           refine pq 20 62 4194303 HT_ ?_
           exact norm_ (by first | (simp only [putAll,Act.put,List.setIfInBounds_toArray,List.set_cons_zero,List.set_cons_succ];done) | (simp only [putAll,Act.put,List.setIfInBounds_toArray,List.set_cons_zero,List.set_cons_succ];rfl)) (m2 (b5) _ ⟨hHeld,(kb b3),(kb b4),(kb d7),e3.out,h1.out,c1.out,d3.out,d1.out,d5.out,(bl HB)⟩)
          skip
          refine box_step ?hg (N:=14) ?hd (cs:=#[.int .i64 0,.int .i64 0]) (t:=23) ?hr ?_;(case hd=>rfl);(case hg=>rfl);(case hr=>first | (go_simp;done) | (go_simp;rfl))
          intro b6 hg o3 hbox hb
          have d8:=A_ hbox
          have e4:=gw hg HB
          have h2:=e4
          have d0:=nl hg b3
          have d4:=ng hg b3
          have d2:=nl hg b4
          have d6:=ng hg b4
          have e2:=nl hg d7
          have e1:=ng hg d7
          replace b3:=kB b3 hb
          replace b4:=kB b4 hb
          replace d7:=kB d7 hb
          replace HB:=bB HB hb
          clear hb hbox hg
          refine hK.out _ _ ⟨(cT HB e6),(cT HB e5),(cT HB e8),(cT HB e7),(cT HB e9),(cT HB h0)⟩ (fun hHeld=>?_)
          clear hK K
          refine nq 14 ?_
          exact norm_ (by first | (simp only [putAll,Act.put,List.setIfInBounds_toArray,List.set_cons_zero,List.set_cons_succ];done) | (simp only [putAll,Act.put,List.setIfInBounds_toArray,List.set_cons_zero,List.set_cons_succ];rfl)) (j8 (b5,b6) _ ⟨hHeld,(kb b3),(kb b4),(kb d7),(kb d8),e3.out,h1.out,c1.out,d3.out,d1.out,d5.out,e1.out,e2.out,e4.out,h2.out,d0.out,d4.out,d2.out,d6.out,(bl HB)⟩)
         skip
         rintro _ n8 ⟨hS_,i1,i2,i3⟩
         replace b3:Aside0 (n8.heap[b7]? = some (.cells #[.int .i64 e0,.int .i64 d9] 51 (0,0))):=⟨i1⟩
         replace b4:Aside0 (n8.heap[b8]? = some (.cells #[.slice (some b9) l0.length c0,.int .i64 a1] 94 (0,0))):=⟨i2⟩
         replace HB:Aside0 (Below w.heap.size w n8):=⟨i3⟩
         clear i1 i2 i3
         have hHeld:n8.cell? (b2.add ((b0).toNat * 2)) = some (.int .i64 ((rd_T23 l2 b0).f0)) ∧ n8.cell? ⟨(b2.add ((b0).toNat * 2)).block,(b2.add ((b0).toNat * 2)).off + 1,none⟩ = some (.int .i64 ((rd_T23 l2 b0).f1)) ∧ n8.cell? (b2.add ((b1).toNat * 2)) = some (.int .i64 ((rd_T23 l2 b1).f0)) ∧ n8.cell? ⟨(b2.add ((b1).toNat * 2)).block,(b2.add ((b1).toNat * 2)).off + 1,none⟩ = some (.int .i64 ((rd_T23 l2 b1).f1)) ∧ n8.cell? (b9.add (b0).toNat) = some (.int .i64 (rd l0 b0)) ∧ n8.cell? (b9.add (b1).toNat) = some (.int .i64 (rd l0 b1)):=hS_
         refine norm_ (a':=?_) ?_ ?_
         rotate_left
         ·simp only [putAll,Act.put,List.setIfInBounds_toArray,List.set_cons_zero,List.set_cons_succ]
          rfl
         refine two_ (i:=21) (j:=22) (Ni:=some 13) (Nj:=some 14) (ba 25 4194303) (ba 25 6291455) rfl rfl rfl rfl (two_of HT_.out (by kernel_rfl)) (by decide) (by decide) (fun K hK=>?_) (fun K hK=>?_)
         ·skip
          refine box_step ?hg (N:=13) ?hd (cs:=#[.int .i64 0,.int .i64 0]) (t:=23) ?hr ?_;(case hd=>rfl);(case hg=>rfl);(case hr=>first | (go_simp;done) | (go_simp;rfl))
          intro b5 hg o3 hbox hb
          have d7:=A_ hbox
          have e3:=gw hg HB
          have h1:=e3
          have c1:=nl hg b3
          have d3:=ng hg b3
          have d1:=nl hg b4
          have d5:=ng hg b4
          replace b3:=kB b3 hb
          replace b4:=kB b4 hb
          replace HB:=bB HB hb
          clear hb hbox hg
          refine hK.out _ _ ⟨(cT HB e6),(cT HB e5),(cT HB e8),(cT HB e7),(cT HB e9),(cT HB h0)⟩ (fun hHeld=>?_)
          clear hK K
          refine nq 13 ?_
          exact norm_ (by first | (simp only [putAll,Act.put,List.setIfInBounds_toArray,List.set_cons_zero,List.set_cons_succ];done) | (simp only [putAll,Act.put,List.setIfInBounds_toArray,List.set_cons_zero,List.set_cons_succ];rfl)) (m2 (b5) _ ⟨hHeld,(kb b3),(kb b4),(kb d7),e3.out,h1.out,c1.out,d3.out,d1.out,d5.out,(bl HB)⟩)
         skip
         refine box_step ?hg (N:=14) ?hd (cs:=#[.int .i64 0,.int .i64 0]) (t:=23) ?hr ?_;(case hd=>rfl);(case hg=>rfl);(case hr=>first | (go_simp;done) | (go_simp;rfl))
         intro b6 hg o3 hbox hb
         have d8:=A_ hbox
         have e4:=gw hg HB
         have h2:=e4
         have d0:=nl hg b3
         have d4:=ng hg b3
         have d2:=nl hg b4
         have d6:=ng hg b4
         replace b3:=kB b3 hb
         replace b4:=kB b4 hb
         replace HB:=bB HB hb
         clear hb hbox hg
         refine hK.out _ _ ⟨(cT HB e6),(cT HB e5),(cT HB e8),(cT HB e7),(cT HB e9),(cT HB h0)⟩ (fun hHeld=>?_)
         clear hK K
         refine nq 14 ?_
         exact norm_ (by first | (simp only [putAll,Act.put,List.setIfInBounds_toArray,List.set_cons_zero,List.set_cons_succ];done) | (simp only [putAll,Act.put,List.setIfInBounds_toArray,List.set_cons_zero,List.set_cons_succ];rfl)) (m3 (b6) _ ⟨hHeld,(kb b3),(kb b4),(kb d8),e4.out,h2.out,d0.out,d4.out,d2.out,d6.out,(bl HB)⟩)
        skip
        rintro ⟨b5,b6⟩ o3 ⟨hS_,i1,i2,i3,j9,l5,l6,l7,l8,l9,m0,m7,m8,m9,n0,n1,n2,n3,n4,n5⟩
        have d7:Aside0 (o3.heap[b5]? = some (.cells #[.int .i64 0,.int .i64 0] 23 (0,0))):=⟨i3⟩
        have d8:Aside0 (o3.heap[b6]? = some (.cells #[.int .i64 0,.int .i64 0] 23 (0,0))):=⟨j9⟩
        have e3:Aside0 (w.heap.size ≤ b5):=⟨l5⟩
        have h1:Aside0 (w.heap.size ≤ b5):=⟨l6⟩
        have c1:Aside0 (b7 ≠ b5):=⟨l7⟩
        have d3:Aside0 (b5 ≠ b7):=⟨l8⟩
        have d1:Aside0 (b8 ≠ b5):=⟨l9⟩
        have d5:Aside0 (b5 ≠ b8):=⟨m0⟩
        have e1:Aside0 (b6 ≠ b5):=⟨m7⟩
        have e2:Aside0 (b5 ≠ b6):=⟨m8⟩
        have e4:Aside0 (w.heap.size ≤ b6):=⟨m9⟩
        have h2:Aside0 (w.heap.size ≤ b6):=⟨n0⟩
        have d0:Aside0 (b7 ≠ b6):=⟨n1⟩
        have d4:Aside0 (b6 ≠ b7):=⟨n2⟩
        have d2:Aside0 (b8 ≠ b6):=⟨n3⟩
        have d6:Aside0 (b6 ≠ b8):=⟨n4⟩
        replace b3:Aside0 (o3.heap[b7]? = some (.cells #[.int .i64 e0,.int .i64 d9] 51 (0,0))):=⟨i1⟩
        replace b4:Aside0 (o3.heap[b8]? = some (.cells #[.slice (some b9) l0.length c0,.int .i64 a1] 94 (0,0))):=⟨i2⟩
        replace HB:Aside0 (Below w.heap.size w o3):=⟨n5⟩
        clear i1 i2 i3 j9 l5 l6 l7 l8 l9 m0 m7 m8 m9 n0 n1 n2 n3 n4 n5
        have hHeld:o3.cell? (b2.add ((b0).toNat * 2)) = some (.int .i64 ((rd_T23 l2 b0).f0)) ∧ o3.cell? ⟨(b2.add ((b0).toNat * 2)).block,(b2.add ((b0).toNat * 2)).off + 1,none⟩ = some (.int .i64 ((rd_T23 l2 b0).f1)) ∧ o3.cell? (b2.add ((b1).toNat * 2)) = some (.int .i64 ((rd_T23 l2 b1).f0)) ∧ o3.cell? ⟨(b2.add ((b1).toNat * 2)).block,(b2.add ((b1).toNat * 2)).off + 1,none⟩ = some (.int .i64 ((rd_T23 l2 b1).f1)) ∧ o3.cell? (b9.add (b0).toNat) = some (.int .i64 (rd l0 b0)) ∧ o3.cell? (b9.add (b1).toNat) = some (.int .i64 (rd l0 b1)):=hS_
        refine norm_ (a':=?_) ?_ ?_
        rotate_left
        ·simp only [putAll,Act.put,List.setIfInBounds_toArray,List.set_cons_zero,List.set_cons_succ]
         rfl
        refine oq 17 60 6553599 HT_ (fun K hK=>?_)
        refine gq Try.func63 #[.agg #[.int .i64 h7,.int .i64 h8],.int .i64 (rd l0 b0),.int .i64 (rd l0 b1)] ?_
        with_reducible refine (shares_garment.calls k2 h7 h8 (rd l0 b0) (rd l0 b1) h3 h5 h4 h6 _ t2.out).mono ?_
        rintro e q5 ⟨rfl,hb⟩
        refine ⟨_,rfl,?_⟩
        replace b3:=kB b3 hb
        replace b4:=kB b4 hb
        replace d7:=kB d7 hb
        replace d8:=kB d8 hb
        replace HB:=bB HB hb
        (try clear hb)
        refine hK.out _ _ ⟨(cT HB e6),(cT HB e5),(cT HB e8),(cT HB e7),(cT HB e9),(cT HB h0)⟩ (fun hHeld=>?_)
        clear hK K
        refine nq 60 ?_
        refine pq 18 42 6815743 HT_ ?_
        refine pq 19 61 7340031 HT_ ?_
        refine pq 20 62 8388607 HT_ ?_
        exact norm_ (by first | (simp only [putAll,Act.put,List.setIfInBounds_toArray,List.set_cons_zero,List.set_cons_succ];done) | (simp only [putAll,Act.put,List.setIfInBounds_toArray,List.set_cons_zero,List.set_cons_succ];rfl)) (h9 (b5,b6) _ ⟨hHeld,(kb b3),(kb b4),(kb d7),(kb d8),e3.out,h1.out,c1.out,d3.out,d1.out,d5.out,e1.out,e2.out,e4.out,h2.out,d0.out,d4.out,d2.out,d6.out,(bl HB)⟩)
       skip
       rintro b6 o3 ⟨hS_,i1,i2,i3,j9,l5,l6,l7,l8,l9,m0⟩
       have d8:Aside0 (o3.heap[b6]? = some (.cells #[.int .i64 0,.int .i64 0] 23 (0,0))):=⟨i3⟩
       have e4:Aside0 (w.heap.size ≤ b6):=⟨j9⟩
       have h2:Aside0 (w.heap.size ≤ b6):=⟨l5⟩
       have d0:Aside0 (b7 ≠ b6):=⟨l6⟩
       have d4:Aside0 (b6 ≠ b7):=⟨l7⟩
       have d2:Aside0 (b8 ≠ b6):=⟨l8⟩
       have d6:Aside0 (b6 ≠ b8):=⟨l9⟩
       replace b3:Aside0 (o3.heap[b7]? = some (.cells #[.int .i64 e0,.int .i64 d9] 51 (0,0))):=⟨i1⟩
       replace b4:Aside0 (o3.heap[b8]? = some (.cells #[.slice (some b9) l0.length c0,.int .i64 a1] 94 (0,0))):=⟨i2⟩
       replace HB:Aside0 (Below w.heap.size w o3):=⟨m0⟩
       clear i1 i2 i3 j9 l5 l6 l7 l8 l9 m0
       have hHeld:o3.cell? (b2.add ((b0).toNat * 2)) = some (.int .i64 ((rd_T23 l2 b0).f0)) ∧ o3.cell? ⟨(b2.add ((b0).toNat * 2)).block,(b2.add ((b0).toNat * 2)).off + 1,none⟩ = some (.int .i64 ((rd_T23 l2 b0).f1)) ∧ o3.cell? (b2.add ((b1).toNat * 2)) = some (.int .i64 ((rd_T23 l2 b1).f0)) ∧ o3.cell? ⟨(b2.add ((b1).toNat * 2)).block,(b2.add ((b1).toNat * 2)).off + 1,none⟩ = some (.int .i64 ((rd_T23 l2 b1).f1)) ∧ o3.cell? (b9.add (b0).toNat) = some (.int .i64 (rd l0 b0)) ∧ o3.cell? (b9.add (b1).toNat) = some (.int .i64 (rd l0 b1)):=hS_
       refine norm_ (a':=?_) ?_ ?_
       rotate_left
       ·simp only [putAll,Act.put,List.setIfInBounds_toArray,List.set_cons_zero,List.set_cons_succ]
        rfl
       refine oq 21 13 8388607 HT_ (fun K hK=>?_)
       refine box_step ?hg (N:=13) ?hd (cs:=#[.int .i64 0,.int .i64 0]) (t:=23) ?hr ?_;(case hd=>rfl);(case hg=>rfl);(case hr=>first | (go_simp;done) | (go_simp;rfl))
       intro b5 hg q5 hbox hb
       have d7:=A_ hbox
       have e3:=gw hg HB
       have h1:=e3
       have c1:=nl hg b3
       have d3:=ng hg b3
       have d1:=nl hg b4
       have d5:=ng hg b4
       have e1:=nl hg d8
       have e2:=ng hg d8
       replace b3:=kB b3 hb
       replace b4:=kB b4 hb
       replace d8:=kB d8 hb
       replace HB:=bB HB hb
       clear hb hbox hg
       refine hK.out _ _ ⟨(cT HB e6),(cT HB e5),(cT HB e8),(cT HB e7),(cT HB e9),(cT HB h0)⟩ (fun hHeld=>?_)
       clear hK K
       refine nq 13 ?_
       exact norm_ (by first | (simp only [putAll,Act.put,List.setIfInBounds_toArray,List.set_cons_zero,List.set_cons_succ];done) | (simp only [putAll,Act.put,List.setIfInBounds_toArray,List.set_cons_zero,List.set_cons_succ];rfl)) (h9 (b5,b6) _ ⟨hHeld,(kb b3),(kb b4),(kb d7),(kb d8),e3.out,h1.out,c1.out,d3.out,d1.out,d5.out,e1.out,e2.out,e4.out,h2.out,d0.out,d4.out,d2.out,d6.out,(bl HB)⟩)
      skip
      rintro b5 o3 ⟨hS_,i1,i2,i3,j9,l5,l6,l7,l8,l9,m0⟩
      have d7:Aside0 (o3.heap[b5]? = some (.cells #[.int .i64 0,.int .i64 0] 23 (0,0))):=⟨i3⟩
      have e3:Aside0 (w.heap.size ≤ b5):=⟨j9⟩
      have h1:Aside0 (w.heap.size ≤ b5):=⟨l5⟩
      have c1:Aside0 (b7 ≠ b5):=⟨l6⟩
      have d3:Aside0 (b5 ≠ b7):=⟨l7⟩
      have d1:Aside0 (b8 ≠ b5):=⟨l8⟩
      have d5:Aside0 (b5 ≠ b8):=⟨l9⟩
      replace b3:Aside0 (o3.heap[b7]? = some (.cells #[.int .i64 e0,.int .i64 d9] 51 (0,0))):=⟨i1⟩
      replace b4:Aside0 (o3.heap[b8]? = some (.cells #[.slice (some b9) l0.length c0,.int .i64 a1] 94 (0,0))):=⟨i2⟩
      replace HB:Aside0 (Below w.heap.size w o3):=⟨m0⟩
      clear i1 i2 i3 j9 l5 l6 l7 l8 l9 m0
      have hHeld:o3.cell? (b2.add ((b0).toNat * 2)) = some (.int .i64 ((rd_T23 l2 b0).f0)) ∧ o3.cell? ⟨(b2.add ((b0).toNat * 2)).block,(b2.add ((b0).toNat * 2)).off + 1,none⟩ = some (.int .i64 ((rd_T23 l2 b0).f1)) ∧ o3.cell? (b2.add ((b1).toNat * 2)) = some (.int .i64 ((rd_T23 l2 b1).f0)) ∧ o3.cell? ⟨(b2.add ((b1).toNat * 2)).block,(b2.add ((b1).toNat * 2)).off + 1,none⟩ = some (.int .i64 ((rd_T23 l2 b1).f1)) ∧ o3.cell? (b9.add (b0).toNat) = some (.int .i64 (rd l0 b0)) ∧ o3.cell? (b9.add (b1).toNat) = some (.int .i64 (rd l0 b1)):=hS_
      refine norm_ (a':=?_) ?_ ?_
      rotate_left
      ·simp only [putAll,Act.put,List.setIfInBounds_toArray,List.set_cons_zero,List.set_cons_succ]
       rfl
      refine oq 22 14 8388607 HT_ (fun K hK=>?_)
      refine box_step ?hg (N:=14) ?hd (cs:=#[.int .i64 0,.int .i64 0]) (t:=23) ?hr ?_;(case hd=>rfl);(case hg=>rfl);(case hr=>first | (go_simp;done) | (go_simp;rfl))
      intro b6 hg q5 hbox hb
      have d8:=A_ hbox
      have e4:=gw hg HB
      have h2:=e4
      have d0:=nl hg b3
      have d4:=ng hg b3
      have d2:=nl hg b4
      have d6:=ng hg b4
      have e2:=nl hg d7
      have e1:=ng hg d7
      replace b3:=kB b3 hb
      replace b4:=kB b4 hb
      replace d7:=kB d7 hb
      replace HB:=bB HB hb
      clear hb hbox hg
      refine hK.out _ _ ⟨(cT HB e6),(cT HB e5),(cT HB e8),(cT HB e7),(cT HB e9),(cT HB h0)⟩ (fun hHeld=>?_)
      clear hK K
      refine nq 14 ?_
      exact norm_ (by first | (simp only [putAll,Act.put,List.setIfInBounds_toArray,List.set_cons_zero,List.set_cons_succ];done) | (simp only [putAll,Act.put,List.setIfInBounds_toArray,List.set_cons_zero,List.set_cons_succ];rfl)) (h9 (b5,b6) _ ⟨hHeld,(kb b3),(kb b4),(kb d7),(kb d8),e3.out,h1.out,c1.out,d3.out,d1.out,d5.out,e1.out,e2.out,e4.out,h2.out,d0.out,d4.out,d2.out,d6.out,(bl HB)⟩)
     rintro ⟨b5,b6⟩ q5 ⟨hS_,i1,i2,i3,j9,l5,l6,l7,l8,l9,m0,m7,m8,m9,n0,n1,n2,n3,n4,n5⟩
     have d7:Aside0 (q5.heap[b5]? = some (.cells #[.int .i64 0,.int .i64 0] 23 (0,0))):=⟨i3⟩
     have d8:Aside0 (q5.heap[b6]? = some (.cells #[.int .i64 0,.int .i64 0] 23 (0,0))):=⟨j9⟩
     have e3:Aside0 (w.heap.size ≤ b5):=⟨l5⟩
     have h1:Aside0 (w.heap.size ≤ b5):=⟨l6⟩
     have c1:Aside0 (b7 ≠ b5):=⟨l7⟩
     have d3:Aside0 (b5 ≠ b7):=⟨l8⟩
     have d1:Aside0 (b8 ≠ b5):=⟨l9⟩
     have d5:Aside0 (b5 ≠ b8):=⟨m0⟩
     have e1:Aside0 (b6 ≠ b5):=⟨m7⟩
     have e2:Aside0 (b5 ≠ b6):=⟨m8⟩
     have e4:Aside0 (w.heap.size ≤ b6):=⟨m9⟩
     have h2:Aside0 (w.heap.size ≤ b6):=⟨n0⟩
     have d0:Aside0 (b7 ≠ b6):=⟨n1⟩
     have d4:Aside0 (b6 ≠ b7):=⟨n2⟩
     have d2:Aside0 (b8 ≠ b6):=⟨n3⟩
     have d6:Aside0 (b6 ≠ b8):=⟨n4⟩
     replace b3:Aside0 (q5.heap[b7]? = some (.cells #[.int .i64 e0,.int .i64 d9] 51 (0,0))):=⟨i1⟩
     replace b4:Aside0 (q5.heap[b8]? = some (.cells #[.slice (some b9) l0.length c0,.int .i64 a1] 94 (0,0))):=⟨i2⟩
     replace HB:Aside0 (Below w.heap.size w q5):=⟨n5⟩
     clear i1 i2 i3 j9 l5 l6 l7 l8 l9 m0 m7 m8 m9 n0 n1 n2 n3 n4 n5
     have hHeld:q5.cell? (b2.add ((b0).toNat * 2)) = some (.int .i64 ((rd_T23 l2 b0).f0)) ∧ q5.cell? ⟨(b2.add ((b0).toNat * 2)).block,(b2.add ((b0).toNat * 2)).off + 1,none⟩ = some (.int .i64 ((rd_T23 l2 b0).f1)) ∧ q5.cell? (b2.add ((b1).toNat * 2)) = some (.int .i64 ((rd_T23 l2 b1).f0)) ∧ q5.cell? ⟨(b2.add ((b1).toNat * 2)).block,(b2.add ((b1).toNat * 2)).off + 1,none⟩ = some (.int .i64 ((rd_T23 l2 b1).f1)) ∧ q5.cell? (b9.add (b0).toNat) = some (.int .i64 (rd l0 b0)) ∧ q5.cell? (b9.add (b1).toNat) = some (.int .i64 (rd l0 b1)):=hS_
     refine norm_ (a':=?_) ?_ ?_
     rotate_left
     ·simp only [putAll,Act.put,List.setIfInBounds_toArray,List.set_cons_zero,List.set_cons_succ]
      rfl
     refine one_ (i:=23) (N:=none) (ba 25 16777215) rfl rfl (one_of HT_.out (by kernel_rfl)) (by decide) (fun K hK=>?_)
     have U3:q5.cell? ⟨b5,0,none⟩ = some (.int .i64 0):=cz d7 0
     have Q8:=blk_frozen d7.out 0
     have J3:=c1.out
     have J4:=d1.out
     have J5:=e1.out
     have J6:=d3.out
     have J7:=d5.out
     have J8:=e2.out
     have U4:q5.cell? ⟨b5,1,none⟩ = some (.int .i64 0):=cz d7 1
     have Q9:=blk_frozen d7.out 1
     have J9:=c1.out
     have K0:=d1.out
     have K1:=e1.out
     have K2:=d3.out
     have K3:=d5.out
     have K4:=e2.out
     refine skip_ (w1:=?_) (by rfl) rfl ?_ ?_
     rotate_left
     ·go_simp
      rfl
     refine hK.out _ _ ⟨((cf9 e6 e3).trans (((cf9 e6 e3).trans (hHeld.1)))),((cf9 e5 e3).trans (((cf9 e5 e3).trans (hHeld.2.1)))),((cf9 e8 e3).trans (((cf9 e8 e3).trans (hHeld.2.2.1)))),((cf9 e7 e3).trans (((cf9 e7 e3).trans (hHeld.2.2.2.1)))),((cf9 e9 e3).trans (((cf9 e9 e3).trans (hHeld.2.2.2.2.1)))),((cf9 h0 e3).trans (((cf9 h0 e3).trans (hHeld.2.2.2.2.2))))⟩ (fun hHeld=>?_)
     clear hK K
     refine one_ (i:=24) (N:=none) (ba 25 33554431) rfl rfl (one_of HT_.out (by kernel_rfl)) (by decide) (fun K hK=>?_)
     have U5:q5.cell? ⟨b6,0,none⟩ = some (.int .i64 0):=cz d8 0
     have R0:=blk_frozen d8.out 0
     have K5:=d0.out
     have K6:=d2.out
     have K7:=e2.out
     have K8:=d4.out
     have K9:=d6.out
     have L0:=e1.out
     have U6:q5.cell? ⟨b6,1,none⟩ = some (.int .i64 0):=cz d8 1
     have R1:=blk_frozen d8.out 1
     have L1:=d0.out
     have L2:=d2.out
     have L3:=e2.out
     have L4:=d4.out
     have L5:=d6.out
     have L6:=e1.out
     refine skip_ (w1:=?_) (by rfl) rfl ?_ ?_
     rotate_left
     ·go_simp
      rfl
     refine hK.out _ _ ⟨((cf9 e6 e4).trans (((cf9 e6 e4).trans (hHeld.1)))),((cf9 e5 e4).trans (((cf9 e5 e4).trans (hHeld.2.1)))),((cf9 e8 e4).trans (((cf9 e8 e4).trans (hHeld.2.2.1)))),((cf9 e7 e4).trans (((cf9 e7 e4).trans (hHeld.2.2.2.1)))),((cf9 e9 e4).trans (((cf9 e9 e4).trans (hHeld.2.2.2.2.1)))),((cf9 h0 e4).trans (((cf9 h0 e4).trans (hHeld.2.2.2.2.2))))⟩ (fun hHeld=>?_)
     clear hK K
     refine done_ (done_of HT_.out (by kernel_rfl)) ?_
     try go_wp2
     have x3:Aside0 (((((q5.setCell ⟨b5,0,none⟩ (.int .i64 h3)).setCell ⟨b5,1,none⟩ (.int .i64 h5)).setCell ⟨b6,0,none⟩ (.int .i64 h4)).setCell ⟨b6,1,none⟩ (.int .i64 h6)).heap[b7]? = some (.cells #[.int .i64 e0,.int .i64 d9] 51 (0,0))):=⟨by (with_reducible repeat (first | refine blk_drewN ?_ _ | refine blk_drew ?_ | refine blk_alloc ?_ _));refine blk_far ?_ d0.out _;(with_reducible repeat (first | refine blk_drewN ?_ _ | refine blk_drew ?_ | refine blk_alloc ?_ _));refine blk_far ?_ d0.out _;(with_reducible repeat (first | refine blk_drewN ?_ _ | refine blk_drew ?_ | refine blk_alloc ?_ _));refine blk_far ?_ c1.out _;(with_reducible repeat (first | refine blk_drewN ?_ _ | refine blk_drew ?_ | refine blk_alloc ?_ _));refine blk_far ?_ c1.out _;(with_reducible repeat (first | refine blk_drewN ?_ _ | refine blk_drew ?_ | refine blk_alloc ?_ _));exact b3.out⟩
     have x4:Aside0 (((((q5.setCell ⟨b5,0,none⟩ (.int .i64 h3)).setCell ⟨b5,1,none⟩ (.int .i64 h5)).setCell ⟨b6,0,none⟩ (.int .i64 h4)).setCell ⟨b6,1,none⟩ (.int .i64 h6)).heap[b8]? = some (.cells #[.slice (some b9) l0.length c0,.int .i64 a1] 94 (0,0))):=⟨by (with_reducible repeat (first | refine blk_drewN ?_ _ | refine blk_drew ?_ | refine blk_alloc ?_ _));refine blk_far ?_ d2.out _;(with_reducible repeat (first | refine blk_drewN ?_ _ | refine blk_drew ?_ | refine blk_alloc ?_ _));refine blk_far ?_ d2.out _;(with_reducible repeat (first | refine blk_drewN ?_ _ | refine blk_drew ?_ | refine blk_alloc ?_ _));refine blk_far ?_ d1.out _;(with_reducible repeat (first | refine blk_drewN ?_ _ | refine blk_drew ?_ | refine blk_alloc ?_ _));refine blk_far ?_ d1.out _;(with_reducible repeat (first | refine blk_drewN ?_ _ | refine blk_drew ?_ | refine blk_alloc ?_ _));exact b4.out⟩
     have x5:Aside0 (((((q5.setCell ⟨b5,0,none⟩ (.int .i64 h3)).setCell ⟨b5,1,none⟩ (.int .i64 h5)).setCell ⟨b6,0,none⟩ (.int .i64 h4)).setCell ⟨b6,1,none⟩ (.int .i64 h6)).heap[b5]? = some (.cells #[.int .i64 h3,.int .i64 h5] 23 (0,0))):=⟨by (with_reducible repeat (first | refine blk_drewN ?_ _ | refine blk_drew ?_ | refine blk_alloc ?_ _));refine blk_far ?_ e2.out _;(with_reducible repeat (first | refine blk_drewN ?_ _ | refine blk_drew ?_ | refine blk_alloc ?_ _));refine blk_far ?_ e2.out _;(with_reducible repeat (first | refine blk_drewN ?_ _ | refine blk_drew ?_ | refine blk_alloc ?_ _));refine blk_put (cs:=#[.int .i64 h3,.int .i64 0]) ?_ 1 _ rfl;(with_reducible repeat (first | refine blk_drewN ?_ _ | refine blk_drew ?_ | refine blk_alloc ?_ _));refine blk_put (cs:=#[.int .i64 0,.int .i64 0]) ?_ 0 _ rfl;(with_reducible repeat (first | refine blk_drewN ?_ _ | refine blk_drew ?_ | refine blk_alloc ?_ _));exact d7.out⟩
     have x6:Aside0 (((((q5.setCell ⟨b5,0,none⟩ (.int .i64 h3)).setCell ⟨b5,1,none⟩ (.int .i64 h5)).setCell ⟨b6,0,none⟩ (.int .i64 h4)).setCell ⟨b6,1,none⟩ (.int .i64 h6)).heap[b6]? = some (.cells #[.int .i64 h4,.int .i64 h6] 23 (0,0))):=⟨by (with_reducible repeat (first | refine blk_drewN ?_ _ | refine blk_drew ?_ | refine blk_alloc ?_ _));refine blk_put (cs:=#[.int .i64 h4,.int .i64 0]) ?_ 1 _ rfl;(with_reducible repeat (first | refine blk_drewN ?_ _ | refine blk_drew ?_ | refine blk_alloc ?_ _));refine blk_put (cs:=#[.int .i64 0,.int .i64 0]) ?_ 0 _ rfl;(with_reducible repeat (first | refine blk_drewN ?_ _ | refine blk_drew ?_ | refine blk_alloc ?_ _));refine blk_far ?_ e1.out _;(with_reducible repeat (first | refine blk_drewN ?_ _ | refine blk_drew ?_ | refine blk_alloc ?_ _));refine blk_far ?_ e1.out _;(with_reducible repeat (first | refine blk_drewN ?_ _ | refine blk_drew ?_ | refine blk_alloc ?_ _));exact d8.out⟩
     have x7:Aside0 (Below w.heap.size w ((((q5.setCell ⟨b5,0,none⟩ (.int .i64 h3)).setCell ⟨b5,1,none⟩ (.int .i64 h5)).setCell ⟨b6,0,none⟩ (.int .i64 h4)).setCell ⟨b6,1,none⟩ (.int .i64 h6))):=⟨bl HB⟩
     generalize ((((q5.setCell ⟨b5,0,none⟩ (.int .i64 h3)).setCell ⟨b5,1,none⟩ (.int .i64 h5)).setCell ⟨b6,0,none⟩ (.int .i64 h4)).setCell ⟨b6,1,none⟩ (.int .i64 h6)) = U7 at x3 x4 x5 x6 x7 ⊢
     have b3:=x3
     have b4:=x4
     have d7:=x5
     have d8:=x6
     have HB:=x7
     clear x3 x4 x5 x6 x7
     replace b3:=kD b3
     replace b4:=kD b4
     replace d7:=kD d7
     replace d8:=kD d8
     replace HB:=bD HB
     have p5:0 ≤ (b0:Int):=oa_
     have p6:b0 < (l2.length:Int):=oa_
     obtain ⟨r0,s7,j5,j7⟩:=at_T23 t0.out b0 p5 p6
     have p7:=j7
     have p8:=j5
     obtain rfl:b2 = r0:=(by injection s7)
     replace j5:=cT HB j5
     replace j7:=cT HB j7
     replace p5:=eq_true p5
     replace p6:=eq_true p6
     have r5:0 ≤ (b1:Int):=oa_
     have r6:b1 < (l2.length:Int):=oa_
     obtain ⟨s9,x8,m4,m5⟩:=at_T23 t0.out b1 r5 r6
     have r7:=m5
     have r8:=m4
     obtain rfl:b2 = s9:=(by injection x8)
     replace m4:=cT HB m4
     replace m5:=cT HB m5
     replace r5:=eq_true r5
     replace r6:=eq_true r6
     refine start_ (n:=14) (S:=fun w'=>w'.cell? ⟨b5,0,none⟩ = some (.int .i64 h3) ∧ w'.cell? ⟨b5,1,none⟩ = some (.int .i64 h5) ∧ w'.cell? ⟨b6,0,none⟩ = some (.int .i64 h4) ∧ w'.cell? ⟨b6,1,none⟩ = some (.int .i64 h6) ∧ w'.cell? (b2.add ((b0).toNat * 2)) = some (.int .i64 ((rd_T23 l2 b0).f0)) ∧ w'.cell? ⟨(b2.add ((b0).toNat * 2)).block,(b2.add ((b0).toNat * 2)).off + 1,none⟩ = some (.int .i64 ((rd_T23 l2 b0).f1)) ∧ w'.cell? (b2.add ((b1).toNat * 2)) = some (.int .i64 ((rd_T23 l2 b1).f0)) ∧ w'.cell? ⟨(b2.add ((b1).toNat * 2)).block,(b2.add ((b1).toNat * 2)).off + 1,none⟩ = some (.int .i64 ((rd_T23 l2 b1).f1))) (ds:=[]) (ba 14 0) (by kernel_rfl) rfl rfl ⟨cz d7 0,cz d7 1,cz d8 0,cz d8 1,(cT HB p8),(cT HB p7),(cT HB r8),(cT HB r7)⟩ (fun hHeld=>?_);refine with_tabW shares_Agrees.tab13 shares_Agrees.bits13 (fun HT_ HW_=>?_)
     generalize U7.drew = R2 at b3 b4 d7 d8 HB j5 j7 m4 m5 hHeld ⊢
     refine pq 1 64 2 HT_ ?_
     refine pq 2 65 6 HT_ ?_
     refine pq 3 66 14 HT_ ?_
     refine tq 0 63 15 HT_ HW_ hHeld ?_
     refine tq 4 67 31 HT_ HW_ hHeld ?_
     refine pq 5 68 63 HT_ ?_
     refine pq 6 69 127 HT_ ?_
     refine pq 8 71 383 HT_ ?_
     refine pq 9 72 895 HT_ ?_
     refine pq 10 73 1919 HT_ ?_
     refine tq 7 70 2047 HT_ HW_ hHeld ?_
     refine tq 11 74 4095 HT_ HW_ hHeld ?_
     refine pq 12 75 8191 HT_ ?_
     refine pq 13 76 16383 HT_ ?_
     refine done_ (done_of HT_.out (by kernel_rfl)) ?_
     have R3:=i0.out
     have R4:=m1.out
     have R5:=c1.out
     have R6:=d3.out
     have R7:=d0.out
     have R8:=d4.out
     have L7:R2.cell? ⟨b7,0,none⟩ = some (.int .i64 e0):=cz b3 0
     have L8:R2.cell? ⟨b7,1,none⟩ = some (.int .i64 d9):=cz b3 1
     have L9:=blk_frozen b3.out 0
     have M0:=blk_frozen b3.out 1
     try go_wp2
     refine bodyPost_ret (results_ctt rfl _ _ b7 51 #[.int .i64 b0,.int .i64 b1] (0,0) _ rfl (by (with_reducible repeat (first | refine blk_drewN ?_ _ | refine blk_drew ?_ | refine blk_alloc ?_ _));refine blk_put (cs:=#[.int .i64 b0,.int .i64 d9]) ?_ 1 _ rfl;(with_reducible repeat (first | refine blk_drewN ?_ _ | refine blk_drew ?_ | refine blk_alloc ?_ _));refine blk_put (cs:=#[.int .i64 e0,.int .i64 d9]) ?_ 0 _ rfl;(with_reducible repeat (first | refine blk_drewN ?_ _ | refine blk_drew ?_ | refine blk_alloc ?_ _));exact b3.out) Try.underlying51 rfl (by kernel_rfl)) rfl ?_
     exact ⟨by first | rfl | (simp [errW_none,errW_some] <;> rfl) | (simp [*,errW_none,errW_some] <;> rfl),bl HB⟩
end Go.Proofs.Ytjohcjfmlhihbaa.G
set_option linter.unusedSectionVars false
namespace Go.Proofs.Ytjohcjfmlhihbaa.P
open Go Go.RowKit Go.Proofs.Ytjohcjfmlhihbaa.G
open Go.Proofs.YtjohcjfmlhihbaaW.PrintWords Go.Proofs.YtjohcjfmlhihbaaW.PrintMore
def Told (l:List Int) (x:List Rat) (i j:Nat) (r:Int × Int × Bool):Prop :=
 (r.2.2 = false → r.1 < r.2.1 ∧ ∃ (a b:Nat) (ha:a < l.length) (hb:b < l.length) (hxa:a < x.length) (hxb:b < x.length),a ≠ b ∧ garR (x[a] + x[b]) (l[a]:Rat) (l[b]:Rat) ≠ x[a]) ∧ (r.2.2 = true → r.1 = 0 ∧ r.2.1 = 0 ∧ ∀ (a b:Nat) (ha:a < l.length) (hb:b < l.length) (hxa:a < x.length) (hxb:b < x.length),a < b → (i < a ∨ (i = a ∧ j ≤ b)) → garR (x[a] + x[b]) (l[a]:Rat) (l[b]:Rat) = x[a])
section
variable {l:List Int} (h:IsCl l) {x:List Rat} (hx:x.length = l.length) (hs:∀ q ∈ x,0 ≤ q ∧ q ≤ ((1000:Nat):Rat) ∧ q.den ≤ 20)
include h hx hs
theorem pair_sm {i j:Nat} (hi:i < x.length) (hj:j < x.length):Sm 2000000 400 (x[i] + x[j]) :=
 ((q_sm (hs _ (List.getElem_mem hi))).add (q_sm (hs _ (List.getElem_mem hj)))).mono (by decide) (by decide)
end
theorem gar_mono {e f a b:Rat} (h:e ≤ f):garR e a b ≤ garR f a b:=by
 unfold garR restR
 split <;> split <;> split <;> split <;> grind
theorem tot_index {x y:List Rat} (hl:x.length = y.length) (ht:tot x = tot y) (hne:x ≠ y):∃ i j,∃ (hi:i < x.length) (hj:j < x.length),x[i] < y[i]'(by omega) ∧ y[j]'(by omega) < x[j]:=by
 apply Classical.byContradiction
 intro hno
 apply hne
 have cases2:(∀ i (hi:i < x.length),y[i]'(by omega) ≤ x[i]) ∨ (∀ i (hi:i < x.length),x[i] ≤ y[i]'(by omega)):=by
  apply Classical.byContradiction
  intro h2
  apply hno
  have h3:∃ i,∃ hi:i < x.length,x[i] < y[i]'(by omega):=by
   apply Classical.byContradiction
   intro h4
   exact h2 (.inl fun i hi=>by
    have:=fun hlt=>h4 ⟨i,hi,hlt⟩
    grind)
  have h5:∃ j,∃ hj:j < x.length,y[j]'(by omega) < x[j]:=by
   apply Classical.byContradiction
   intro h4
   exact h2 (.inr fun i hi=>by
    have:=fun hlt=>h4 ⟨i,hi,hlt⟩
    grind)
  obtain ⟨i,hi,a⟩:=h3
  obtain ⟨j,hj,b⟩:=h5
  exact ⟨i,j,hi,hj,a,b⟩
 have fx:x = (List.range x.length).map fun i=>x.getD i 0:=by
  refine List.ext_getElem (by simp) fun i h1 h2=>?_
  simp [h1]
 have fy:y = (List.range x.length).map fun i=>y.getD i 0:=by
  refine List.ext_getElem (by simp [hl]) fun i h1 h2=>?_
  simp [h1]
 have gx:∀ i (hi:i < x.length),x.getD i 0 = x[i]:=fun i hi=>by simp [hi]
 have gy:∀ i (hi:i < x.length),y.getD i 0 = y[i]'(by omega):=fun i hi=>by simp [show i < y.length by omega]
 rw [fx,fy] at ht
 rcases cases2 with hc | hc
 ·have:=tot_eq (f:=fun i=>y.getD i 0) (g:=fun i=>x.getD i 0) (l:=List.range x.length) (fun i hi=>by
   have hi:=List.mem_range.1 hi
   rw [gx i hi,gy i hi];exact hc i hi) (by rw [ht];exact Rat.le_refl)
  rw [fx,fy]
  exact (List.map_congr_left fun i hi=>(this i hi)).symm
 ·have:=tot_eq (f:=fun i=>x.getD i 0) (g:=fun i=>y.getD i 0) (l:=List.range x.length) (fun i hi=>by
   have hi:=List.mem_range.1 hi
   rw [gx i hi,gy i hi];exact hc i hi) (by rw [ht];exact Rat.le_refl)
  rw [fx,fy]
  exact List.map_congr_left fun i hi=>this i hi
theorem told_all {l:List Int} {x:List Rat} {r:Int × Int × Bool} (ht:Told l x 0 1 r) (hr:r.2.2 = true) (hx:x.length = l.length):∀ (a b:Nat) (ha:a < l.length) (hb:b < l.length),a ≠ b → garR (x[a]'(by omega) + x[b]'(by omega)) (l[a]:Rat) (l[b]:Rat) = x[a]'(by omega):=by
 intro a b ha hb hab
 by_cases h:a < b
 ·exact (ht.2 hr).2.2 a b ha hb (by omega) (by omega) h (by omega)
 ·have h1:=(ht.2 hr).2.2 b a hb ha (by omega) (by omega) (by omega) (by omega)
  have h2:=gar_sum (x[a]'(by omega) + x[b]'(by omega)) (l[a]:Rat) (l[b]:Rat)
  rw [Rat.add_comm] at h1
  grind
theorem agree_unique {l:List Int} {x y:List Rat} (hx:x.length = l.length) (hy:y.length = l.length) (ht:tot x = tot y)
  (ax:∀ (a b:Nat) (ha:a < l.length) (hb:b < l.length),a ≠ b → garR (x[a]'(by omega) + x[b]'(by omega)) (l[a]:Rat) (l[b]:Rat) = x[a]'(by omega))
  (ay:∀ (a b:Nat) (ha:a < l.length) (hb:b < l.length),a ≠ b → garR (y[a]'(by omega) + y[b]'(by omega)) (l[a]:Rat) (l[b]:Rat) = y[a]'(by omega)):x = y:=by
 apply Classical.byContradiction
 intro hne
 obtain ⟨i,j,hi,hj,h1,h2⟩:=tot_index (by omega) ht hne
 have hij:i ≠ j:=by
  rintro rfl
  grind
 have a1:=ax i j (by omega) (by omega) hij
 have a2:=ax j i (by omega) (by omega) (fun e=>hij e.symm)
 have b1:=ay i j (by omega) (by omega) hij
 have b2:=ay j i (by omega) (by omega) (fun e=>hij e.symm)
 rw [Rat.add_comm] at a2 b2
 rcases Rat.le_total (a:=x[i] + x[j]) (b:=y[i]'(by omega) + y[j]'(by omega)) with hle | hle
 ·have:=gar_mono (a:=(l[j]'(by omega):Rat)) (b:=(l[i]'(by omega):Rat)) hle
  rw [a2,b2] at this
  grind
 ·have:=gar_mono (a:=(l[i]'(by omega):Rat)) (b:=(l[j]'(by omega):Rat)) hle
  rw [a1,b1] at this
  grind
end Go.Proofs.Ytjohcjfmlhihbaa.P
set_option linter.unusedSectionVars false
namespace Go.Proofs.Ytjohcjfmlhihbaa.P
open Go Go.RowKit Go.Proofs.Ytjohcjfmlhihbaa.G
open Go.Proofs.YtjohcjfmlhihbaaW.PrintWords Go.Proofs.YtjohcjfmlhihbaaW.PrintMore
section
variable {l:List Int} (h:IsCl l) {x:List Rat} (hx:x.length = l.length) (hs:∀ q ∈ x,0 ≤ q ∧ q ≤ ((1000:Nat):Rat) ∧ q.den ≤ 20)
include h hx hs
theorem agp_l1 {i:Nat} (hi:i < l.length) (next:∃ r,Told l x (i + 1) (i + 2) r ∧ Ev (fun k=>shares_Agrees.l0 k l (encL x) (l.length:Int) ((i + 1:Nat):Int)) (r.1,r.2.1,r.2.2,0)) :
  ∀ (d j:Nat),j + d = l.length → i < j → ∃ r,Told l x i j r ∧ Ev (fun k=>shares_Agrees.l1 k l (encL x) (i:Int) (j:Int) (l.length:Int) (i:Int)) (r.1,r.2.1,r.2.2,0):=by
 have hl:=h.ten
 intro d
 induction d with
 | zero =>
  intro j hj hij
  obtain ⟨r,ht,e1⟩:=next
  refine ⟨r,⟨ht.1,fun hr=>⟨(ht.2 hr).1,(ht.2 hr).2.1,fun a b ha hb hxa hxb hab hc=>(ht.2 hr).2.2 a b ha hb hxa hxb hab (by omega)⟩⟩,Ev.step (fun k=>?_) e1⟩
  rw [shares_Agrees.l1,if_neg (by omega),wrap_succ (by omega)]
 | succ d ih =>
  intro j hj hij
  have hjl:j < l.length:=by omega
  have hxi:i < x.length:=by omega
  have hxj:j < x.length:=by omega
  have hmi:=h.mem _ (List.getElem_mem hi)
  have hmj:=h.mem _ (List.getElem_mem hjl)
  have si:=q_sm (hs _ (List.getElem_mem hxi))
  have sj:=q_sm (hs _ (List.getElem_mem hxj))
  have se:=pair_sm h hx hs hxi hxj
  have a1:=ev_add (si.fits sj (by decide) (by decide))
  have g1:=ev_garment se hmi hmj
  have gs:=gar_sum (x[i] + x[j]) (l[i]:Rat) (l[j]:Rat)
  have pstart:∀ k,shares_Agrees.l1 (k + 1) l (encL x) (i:Int) (j:Int) (l.length:Int) (i:Int) = ((shares_add.f k x[i].num (x[i].den:Int) x[j].num (x[j].den:Int)).bind fun bt=>((shares_garment.f k bt.1 bt.2 l[i] l[j]).bind fun bt2=>(if (!(bt2.1 == x[i].num) || (!(bt2.2.1 == (x[i].den:Int)))) = true then (some ((i:Int),(j:Int),false,0)) else (if (!(bt2.2.2.1 == x[j].num) || (!(bt2.2.2.2 == (x[j].den:Int)))) = true then (some ((i:Int),(j:Int),false,0)) else (shares_Agrees.l1 k l (encL x) (i:Int) ((j + 1:Nat):Int) (l.length:Int) (i:Int)))))):=by
   intro k
   have c1:(i:Int) < (l.length:Int):=by omega
   rw [shares_Agrees.l1,encL_length,if_pos (by omega),if_pos (by omega),if_pos (by omega),if_pos (by omega),if_pos (by omega),rdE hxi,rdE hxj]
   simp only [encQ,c1,if_true,rd_get hi,rd_get hjl,wrap_succ (show j < 9223372036854775807 by omega)]
  have ne_of:∀ {p q:Rat},p ≠ q → (!(p.num == q.num) || (!((p.den:Int) == (q.den:Int)))) = true:=fun {p q} hpq=>by
   apply Classical.byContradiction
   intro hno
   apply hpq
   simp only [Bool.or_eq_true,Bool.not_eq_true',beq_eq_false_iff_ne,not_or,Decidable.not_not,ne_eq] at hno
   exact Rat.ext hno.1 (by omega)
  by_cases hg:garR (x[i] + x[j]) (l[i]:Rat) (l[j]:Rat) = x[i]
  ·have hg2:garR (x[i] + x[j]) (l[j]:Rat) (l[i]:Rat) = x[j]:=by grind
   rw [hg,hg2] at g1
   obtain ⟨r,ht,e1⟩:=ih (j + 1) (by omega) (by omega)
   refine ⟨r,⟨ht.1,fun hr=>⟨(ht.2 hr).1,(ht.2 hr).2.1,fun a b ha hb hxa hxb hab hc=>?_⟩⟩,Ev.step pstart (Ev.bind a1 (Ev.bind g1 ?_))⟩
   ·by_cases e:i = a ∧ j = b
    ·obtain ⟨rfl,rfl⟩:=e
     exact hg
    ·exact (ht.2 hr).2.2 a b ha hb hxa hxb hab (by omega)
   ·simp only [beq_self_eq_true,Bool.not_true,Bool.or_self,Bool.false_eq_true,if_false]
    exact e1
  ·refine ⟨((i:Int),(j:Int),false),⟨fun _=>⟨show (i:Int) < (j:Int) by omega,i,j,hi,hjl,hxi,hxj,by omega,hg⟩,fun e=>Bool.noConfusion e⟩,Ev.step pstart (Ev.bind a1 (Ev.bind g1 ?_))⟩
   exact Ev.congr (fun k=>if_pos (ne_of hg)) (Ev.now _)
theorem agp_l0:∀ (d i:Nat),i + d = l.length → ∃ r,Told l x i (i + 1) r ∧ Ev (fun k=>shares_Agrees.l0 k l (encL x) (l.length:Int) (i:Int)) (r.1,r.2.1,r.2.2,0):=by
 have hl:=h.ten
 intro d
 induction d with
 | zero =>
  intro i hi
  refine ⟨(0,0,true),⟨fun e=>Bool.noConfusion e,fun _=>⟨rfl,rfl,fun a b ha hb _ _ hab hc=>by omega⟩⟩,Ev.step (f:=fun _=>some (0,0,true,0)) (fun k=>?_) (Ev.now _)⟩
  rw [shares_Agrees.l0,if_neg (by omega)]
 | succ d ih =>
  intro i hi
  obtain ⟨r,ht,e1⟩:=agp_l1 h hx hs (i:=i) (by omega) (ih (i + 1) (by omega)) (l.length - (i + 1)) (i + 1) (by omega) (by omega)
  refine ⟨r,ht,Ev.step (fun k=>?_) e1⟩
  rw [shares_Agrees.l0,if_pos (by omega),wrap_succ (by omega)]
end
theorem ev_AgreesP {l:List Int} (h:IsCl l) {E:Int} (h0:0 ≤ E) (h1:E ≤ sI l) {x:List Rat} (hd:IsDiv l E x):∃ r,Told l x 0 1 r ∧ Ev (fun k=>shares_Agrees.f k l E (encL x)) (r.1,r.2.1,r.2.2,0):=by
 obtain ⟨r,ht,e1⟩:=agp_l0 h hd.len (x_small h hd.len hd.ok) l.length 0 (by omega)
 refine ⟨r,ht,?_⟩
 have hf:H.fitL l:=by unfold H.fitL;have:=h.ten;omega
 have hc:clB l E = true:=decide_eq_true ⟨h,h0,h1⟩
 have hn:=ev_newClaims hf E
 rw [hc] at hn
 have hin:∀ a ∈ encL x,inS a:=fun a ha=>by
  obtain ⟨q,hq,rfl⟩:=List.mem_map.1 ha
  have s:=q_sm (x_small h hd.len hd.ok q hq)
  have s1:=s.num
  have s2:=s.den
  exact ⟨⟨by show _ ≤ q.num;omega,by show q.num ≤ _;omega⟩,⟨by show _ ≤ (q.den:Int);omega,by show (q.den:Int) ≤ _;omega⟩⟩
 obtain ⟨b,hb,hev⟩:=ev_isAward h hin E
 have hbt:b = true:=hb.2 ⟨x,rfl,hd⟩
 rw [hbt] at hev
 unfold shares_Agrees.f
 exact Ev.bind hn (Ev.bind hev e1)
end Go.Proofs.Ytjohcjfmlhihbaa.P
namespace Go.Proofs.Ytjohcjfmlhihbaa.G
open Go.RowKit Go.Proofs.YtjohcjfmlhihbaaW.PrintWords Go.Proofs.YtjohcjfmlhihbaaW.PrintLast Go.Proofs.YtjohcjfmlhihbaaW.PrintMore
set_option maxHeartbeats 8000000
set_option maxRecDepth 100000
attribute [local go_sem] cond_true cond_false fld23_0 fld23_1 fld45_0 fld45_1 fld109_0 fld109_1 fld94_0 fld94_1 max2_int min2_int max_two min_two max_three min_three max_four min_four   -- for this text's walks alone
attribute [local go_sem high] eqA23
def api_Frac_74.l0:Nat → List (S23) → List (S23) → Int → Int → Option (Bool)
 | 0,_,_,_,_=>none
 | k + 1,x0,x1,e0,b5=>if b5 < e0 then (if 0 ≤ b5 then (if b5 < (x0.length:Int) then (if b5 < (x1.length:Int) then (if (!(((rd_T23 x0 b5).f0) == ((rd_T23 x1 b5).f0)) || (!(((rd_T23 x0 b5).f1) == ((rd_T23 x1 b5).f1)))) = true then (some false) else (api_Frac_74.l0 k x0 x1 e0 (wrap64 (b5 + 1)))) else (none)) else (none)) else (none)) else (some true)
def api_Frac_74.f (k:Nat) (l0:List (S23)) (l1:List (S23)):Option (Bool):=if (l0.length:Int) = (l1.length:Int) then (api_Frac_74.l0 k l0 l1 (l0.length:Int) 0) else (some false)
theorem api_Frac_74.mono_l:∀ k,(∀ y0 y1 y2 y3,LeO (api_Frac_74.l0 k y0 y1 y2 y3) (api_Frac_74.l0 (k + 1) y0 y1 y2 y3))
 | 0=>fun _ _ _ _ r h=>by simp [api_Frac_74.l0] at h
 | k + 1=>by
  have d2:=api_Frac_74.mono_l k
  intro y0 y1 y2 y3
  unfold api_Frac_74.l0
  repeat' first
  | (with_reducible exact d2 _ _ _ _)
  | (with_reducible exact LeO.refl _)
  | (with_reducible exact LeO.none _)
  | (with_reducible refine LeO.ite ?_ ?_)
  | (with_reducible refine LeO.bind ?_ (fun _=>?_))
  | exact d2 _ _ _ _
  | exact LeO.none _
  | refine LeO.ite ?_ ?_
  | refine LeO.bind ?_ (fun _=>?_)
theorem api_Frac_74.mono:∀ a0 a1 k,LeO (api_Frac_74.f k a0 a1) (api_Frac_74.f (k + 1) a0 a1):=by
 intro a0 a1 k
 have d2:=api_Frac_74.mono_l k
 unfold api_Frac_74.f
 repeat' first
   | (with_reducible exact d2 _ _ _ _)
   | (with_reducible exact LeO.refl _)
   | (with_reducible exact LeO.none _)
   | (with_reducible refine LeO.ite ?_ ?_)
   | (with_reducible refine LeO.bind ?_ (fun _=>?_))
   | exact d2 _ _ _ _
   | exact LeO.none _
   | refine LeO.ite ?_ ?_
   | refine LeO.bind ?_ (fun _=>?_)
theorem api_Frac_74.calls (k:Nat) (A0:Option Addr) (c0:Nat) (l0:List (S23)) (A1:Option Addr) (c1:Nat) (l1:List (S23)) (r:Bool) (w:World) (e1:Kd.C k23 w A0 l0.length l0) (e2:l0.length ≤ c0) (e3:Kd.C k23 w A1 l1.length l1) (e4:l1.length ≤ c1) (h:api_Frac_74.f k l0 l1 = some r) :
  Calls Try.prog 74 #[.slice A0 l0.length c0,.slice A1 l1.length c1] w fun e w'=>e = .returned (.bool r) ∧ Drawn0 w w':=by
 have e8:=Try.underlying23
 have e5:=Aside0.mk e1
 have h3:=Aside0.mk e2
 clear e1 e2
 have e6:=Aside0.mk e3
 have h4:=Aside0.mk e4
 clear e3 e4
 have H:(if (l0.length:Int) = (l1.length:Int) then (api_Frac_74.l0 k l0 l1 (l0.length:Int) 0) else (some false)) = some r:=h
 clear h
 by_cases c3:(l0.length:Int) = (l1.length:Int)
 case neg =>
  rw [if_neg c3] at H
  have d3:((l0.length:Int) == (l1.length:Int)) = false:=beq_eq_false_iff_ne.mpr c3
  have d4:((l0.length:Int) != (l1.length:Int)) = true:=bne_iff_ne.mpr c3
  have d5:(l0.length == l1.length) = false:=by first | simpa using c3 | (simp at c3 ⊢;omega)
  obtain rfl:=Option.some.inj H
  go_enter Try.func74,Try.ntmps74
  go_wp2
  repeat (go_quiet (fail);try go_wp2)
  go_ret
  exact ⟨by first | rfl | (simp;done) | (simp [*];done),by repeat (first | exact Drawn0.refl _ | apply Drawn0.step)⟩
 rw [if_pos c3] at H
 have d3:((l0.length:Int) == (l1.length:Int)) = true:=beq_iff_eq.mpr c3
 have d4:((l0.length:Int) != (l1.length:Int)) = false:=bne_eq_false_iff_eq.mpr c3
 have d5:(l0.length == l1.length) = true:=by first | simpa using c3 | (simp at c3 ⊢;omega)
 clear c3
 have H':=Aside0.mk H
 clear H
 go_enter Try.func74,Try.ntmps74
 go_wp2
 repeat (go_quiet (fail);try go_wp2)
 go_loopg [13] k (fun kq e9 w'=>∃ (b0:Int),e9 = .int .i64 b0 ∧ Aside0 (api_Frac_74.l0 kq l0 l1 (l0.length:Int) b0 = some r) ∧ Aside0 (kq ≤ k) ∧ Drawn0 w w')
 case atStart=>exact ⟨(0),(by first | rfl | (simp;done) | (simp [*];done)),H',⟨Nat.le_refl _⟩,by repeat (first | exact Drawn0.refl _ | apply Drawn0.step)⟩
 case round =>
  clear H'
  try clear c1
  try clear p2
  try clear c3
  try clear d3
  try clear d4
  try clear d5
  obtain ⟨b0,rfl,HA,e7,⟨m1,rfl⟩⟩:=hrel
  cases gk with
  | zero=>exact absurd HA.out (by simp [api_Frac_74.l0])
  | succ k1 =>
   have H:=HA.out
   clear HA
   simp only [api_Frac_74.l0] at H
   by_cases c4:b0 < (l0.length:Int)
   case neg =>
    rw [if_neg c4] at H
    have d8:decide (b0 < (l0.length:Int)) = false:=decide_eq_false c4
    clear c4
    obtain rfl:=Option.some.inj H
    go_wp2
    repeat (go_quiet (fail);try go_wp2)
    go_ret
    exact ⟨by first | rfl | (simp;done) | (simp [*];done),by repeat (first | exact Drawn0.refl _ | apply Drawn0.step)⟩
   rw [if_pos c4] at H
   have d8:decide (b0 < (l0.length:Int)) = true:=decide_eq_true c4
   clear c4
   by_cases c5:0 ≤ b0
   case neg =>
    rw [if_neg c5] at H
    exact absurd H (by simp)
   rw [if_pos c5] at H
   have h0:decide (0 ≤ b0) = true:=decide_eq_true c5
   clear c5
   by_cases c6:b0 < (l0.length:Int)
   case neg =>
    rw [if_neg c6] at H
    exact absurd H (by simp)
   rw [if_pos c6] at H
   have h1:decide (b0 < (l0.length:Int)) = true:=decide_eq_true c6
   clear c6
   by_cases c7:b0 < (l1.length:Int)
   case neg =>
    rw [if_neg c7] at H
    exact absurd H (by simp)
   rw [if_pos c7] at H
   have h2:decide (b0 < (l1.length:Int)) = true:=decide_eq_true c7
   clear c7
   by_cases c8:(!(((rd_T23 l0 b0).f0) == ((rd_T23 l1 b0).f0)) || (!(((rd_T23 l0 b0).f1) == ((rd_T23 l1 b0).f1)))) = true
   ·rw [if_pos c8] at H
    have d9:(!(((rd_T23 l0 b0).f0) == ((rd_T23 l1 b0).f0)) || (!(((rd_T23 l0 b0).f1) == ((rd_T23 l1 b0).f1)))) = true:=c8
    clear c8
    obtain rfl:=Option.some.inj H
    have b1:0 ≤ (b0:Int):=of_decide_eq_true (by first | (with_reducible assumption) | assumption)
    have b2:b0 < (l0.length:Int):=of_decide_eq_true (by first | (with_reducible assumption) | assumption)
    obtain ⟨d6,d0,b6,b7⟩:=at_T23 e5.out b0 b1 b2
    cases d0
    replace b1:=eq_true b1
    replace b2:=eq_true b2
    have b3:0 ≤ (b0:Int):=of_decide_eq_true (by first | (with_reducible assumption) | assumption)
    have b4:b0 < (l1.length:Int):=of_decide_eq_true (by first | (with_reducible assumption) | assumption)
    obtain ⟨d7,d1,b8,b9⟩:=at_T23 e6.out b0 b3 b4
    cases d1
    replace b3:=eq_true b3
    replace b4:=eq_true b4
    go_wp2
    repeat (go_quiet (fail);try go_wp2)
    go_ret
    exact ⟨by first | rfl | (simp;done) | (simp [*];done),by repeat (first | exact Drawn0.refl _ | apply Drawn0.step)⟩
   rw [if_neg c8] at H
   have d9:(!(((rd_T23 l0 b0).f0) == ((rd_T23 l1 b0).f0)) || (!(((rd_T23 l0 b0).f1) == ((rd_T23 l1 b0).f1)))) = false:=by simpa using c8
   clear c8
   have H':=Aside0.mk H
   clear H
   have b1:0 ≤ (b0:Int):=of_decide_eq_true (by first | (with_reducible assumption) | assumption)
   have b2:b0 < (l0.length:Int):=of_decide_eq_true (by first | (with_reducible assumption) | assumption)
   obtain ⟨d6,d0,b6,b7⟩:=at_T23 e5.out b0 b1 b2
   cases d0
   replace b1:=eq_true b1
   replace b2:=eq_true b2
   have b3:0 ≤ (b0:Int):=of_decide_eq_true (by first | (with_reducible assumption) | assumption)
   have b4:b0 < (l1.length:Int):=of_decide_eq_true (by first | (with_reducible assumption) | assumption)
   obtain ⟨d7,d1,b8,b9⟩:=at_T23 e6.out b0 b3 b4
   cases d1
   replace b3:=eq_true b3
   replace b4:=eq_true b4
   go_wp2
   repeat (go_quiet (fail);try go_wp2)
   go_roundg k1
   case measure=>have:=e7.out;omega
   case rel=>exact ⟨(wrap64 (b0 + 1)),(by first | rfl | (simp;done) | (simp [*];done)),H',⟨by have:=e7.out;omega⟩,by repeat (first | exact Drawn0.refl _ | apply Drawn0.step)⟩
end Go.Proofs.Ytjohcjfmlhihbaa.G
namespace Go.Proofs.Ytjohcjfmlhihbaa.G
open Go.RowKit Go.Proofs.YtjohcjfmlhihbaaW.PrintWords Go.Proofs.YtjohcjfmlhihbaaW.PrintLast Go.Proofs.YtjohcjfmlhihbaaW.PrintMore
set_option maxHeartbeats 8000000
set_option maxRecDepth 100000
attribute [local go_sem] cond_true cond_false fld23_0 fld23_1 fld45_0 fld45_1 fld109_0 fld109_1 fld94_0 fld94_1 max2_int min2_int max_two min_two max_three min_three max_four min_four   -- for this text's walks alone
attribute [local go_sem high] eqA23
def shares_Right.f (k:Nat) (a0:Int) (l1:List Int) (a2:Int) (l3:List (S23)):Option (Int):=(shares_Award.f k a0 l1 a2).bind fun b1=>(if b1.2 = 0 then ((api_Frac_74.f k b1.1 l3).bind fun b3=>(if b3 = true then (some 0) else (some 10))) else (some b1.2))
theorem shares_Right.mono:∀ a0 a1 a2 a3 k,LeO (shares_Right.f k a0 a1 a2 a3) (shares_Right.f (k + 1) a0 a1 a2 a3):=by
 intro a0 a1 a2 a3 k
 unfold shares_Right.f
 repeat' first
   | (with_reducible exact api_Frac_74.mono _ _ _)
   | (with_reducible exact shares_Award.mono _ _ _ _)
   | (with_reducible exact LeO.refl _)
   | (with_reducible exact LeO.none _)
   | (with_reducible refine LeO.ite ?_ ?_)
   | (with_reducible refine LeO.bind ?_ (fun _=>?_))
   | exact api_Frac_74.mono _ _ _
   | exact shares_Award.mono _ _ _ _
   | exact LeO.none _
   | refine LeO.ite ?_ ?_
   | refine LeO.bind ?_ (fun _=>?_)
theorem shares_Right.calls (k:Nat) (a0:Int) (A1:Option Addr) (c1:Nat) (l1:List Int) (a2:Int) (A3:Option Addr) (c3:Nat) (l3:List (S23)) (r:Int) (w:World) (d8:Kd.C (Kd.int .i64) w A1 l1.length l1) (d9:l1.length ≤ c1) (e0:Kd.C k23 w A3 l3.length l3) (e1:l3.length ≤ c3) (h:shares_Right.f k a0 l1 a2 l3 = some r) :
  Calls Try.prog 37 #[.int .i64 a0,.slice A1 l1.length c1,.int .i64 a2,.slice A3 l3.length c3] w fun e w'=>e = .returned (.int .i64 r) ∧ Below w.heap.size w w':=by
 have b9:=Aside0.mk d8
 have c0:=Aside0.mk d9
 clear d8 d9
 have e2:=Aside0.mk e0
 have e3:=Aside0.mk e1
 clear e0 e1
 have HB:=Aside0.mk (Below.refl w.heap.size w)
 have H:((shares_Award.f k a0 l1 a2).bind fun b1=>(if b1.2 = 0 then ((api_Frac_74.f k b1.1 l3).bind fun b3=>(if b3 = true then (some 0) else (some 10))) else (some b1.2))) = some r:=h
 clear h
 replace H:=Option.bind_eq_some_iff.mp H
 obtain ⟨⟨b4,b2⟩,A50,H⟩:=H
 replace H:(if b2 = 0 then ((api_Frac_74.f k b4 l3).bind fun b3=>(if b3 = true then (some 0) else (some 10))) else (some b2)) = some r:=H
 have A5:=Aside0.mk A50
 clear A50
 by_cases c6:b2 = 0
 case neg =>
  rw [if_neg c6] at H
  have d0:(b2 == 0) = false:=beq_eq_false_iff_ne.mpr c6
  have d1:(b2 != 0) = true:=bne_iff_ne.mpr c6
  obtain rfl:=Option.some.inj H
  go_enter Try.func37,Try.ntmps37
  go_wp2_with (first | ((with_reducible refine gate_callee (f:=26) rfl ?_);refine goesL_ (some 15) rfl rfl Try.func26 (by kernel_rfl) rfl #[.int .i64 a0,.slice A1 l1.length c1,.int .i64 a2] rfl (by (try simp only [List.map_toArray,List.map_cons,List.map_nil]);first | done | rfl | (simp only [List.length_drop,List.length_take];rfl)) ?_;(with_reducible refine (shares_Award.calls k a0 _ _ l1 a2 b4 b2 _ ?side1 ?side2 A5.out).mono ?_);(case side1=>repeat (first | exact b9.out | (with_reducible refine Kd.C_alloc ?_ _) | (with_reducible refine Kd.C_drewN ?_ _) | (with_reducible refine Kd.C_drew ?_)));(case side2=>exact c0.out);rintro e e5 ⟨b8,rfl,b5,hb⟩;refine ⟨_,rfl,?_⟩;have b6:=Aside0.mk (Kd.R_lower b5 (below_size (by repeat (first | (with_reducible first | exact HB.out | apply below_alloc | apply pw_below_drewN | apply below_drew1) | exact HB.out))));have b7:=Aside0.mk (below_step (by repeat (first | (with_reducible first | exact HB.out | apply below_alloc | apply pw_below_drewN | apply below_drew1) | exact HB.out)) hb);clear HB;have b0:=b6;have HB:=b7;clear b6 b7;(try clear hb);(try clear b5)))
  go_ret
  exact ⟨by first | rfl | (simp [errW_none,errW_some] <;> rfl) | (simp [*,errW_none,errW_some] <;> rfl),by repeat (first | (with_reducible first | exact HB.out | apply below_alloc | apply pw_below_drewN | apply below_drew1) | exact HB.out)⟩
 rw [if_pos c6] at H
 have d0:(b2 == 0) = true:=beq_iff_eq.mpr c6
 have d1:(b2 != 0) = false:=bne_eq_false_iff_eq.mpr c6
 clear c6
 replace H:=Option.bind_eq_some_iff.mp H
 obtain ⟨b3,e4,H⟩:=H
 replace H:(if b3 = true then (some 0) else (some 10)) = some r:=H
 have A7:=Aside0.mk e4
 clear e4
 by_cases c8:b3 = true
 ·subst c8
  have H1:(some 0) = some r:=by rw [if_pos rfl] at H;exact H
  clear H
  have H:=H1
  clear H1
  obtain rfl:=Option.some.inj H
  go_enter Try.func37,Try.ntmps37
  go_wp2_with (first | ((with_reducible refine gate_callee (f:=26) rfl ?_);refine goesL_ (some 15) rfl rfl Try.func26 (by kernel_rfl) rfl #[.int .i64 a0,.slice A1 l1.length c1,.int .i64 a2] rfl (by (try simp only [List.map_toArray,List.map_cons,List.map_nil]);first | done | rfl | (simp only [List.length_drop,List.length_take];rfl)) ?_;(with_reducible refine (shares_Award.calls k a0 _ _ l1 a2 b4 b2 _ ?side1 ?side2 A5.out).mono ?_);(case side1=>repeat (first | exact b9.out | (with_reducible refine Kd.C_alloc ?_ _) | (with_reducible refine Kd.C_drewN ?_ _) | (with_reducible refine Kd.C_drew ?_)));(case side2=>exact c0.out);rintro e w9 ⟨b8,rfl,b5,hb⟩;refine ⟨_,rfl,?_⟩;have b6:=Aside0.mk (Kd.R_lower b5 (below_size (by repeat (first | (with_reducible first | exact HB.out | apply below_alloc | apply pw_below_drewN | apply below_drew1) | exact HB.out))));have b7:=Aside0.mk (below_step (by repeat (first | (with_reducible first | exact HB.out | apply below_alloc | apply pw_below_drewN | apply below_drew1) | exact HB.out)) hb);clear HB;have b0:=b6;have HB:=b7;clear b6 b7;(try clear hb);(try clear b5);obtain ⟨d2,d3,d4⟩:=Kd.R_slice b0.out;subst d4) | ((with_reducible refine gate_callee (f:=74) rfl ?_);refine goesL_ (some 23) rfl rfl Try.func74 (by kernel_rfl) rfl #[.slice d2 b4.length d3,.slice A3 l3.length c3] rfl (by (try simp only [List.map_toArray,List.map_cons,List.map_nil]);first | done | rfl | (simp only [List.length_drop,List.length_take];rfl)) ?_;(with_reducible refine (api_Frac_74.calls k _ _ b4 _ _ l3 true _ ?side1 ?side2 ?side3 ?side4 A7.out).mono ?_);(case side1=>repeat (first | exact (Kd.R_reads' b0.out).2.2 | (with_reducible refine Kd.C_alloc ?_ _) | (with_reducible refine Kd.C_drewN ?_ _) | (with_reducible refine Kd.C_drew ?_)));(case side2=>exact (Kd.R_reads' b0.out).2.1);(case side3=>repeat (first | exact (Kd.C_below e2.out HB.out) | (with_reducible refine Kd.C_alloc ?_ _) | (with_reducible refine Kd.C_drewN ?_ _) | (with_reducible refine Kd.C_drew ?_)));(case side4=>exact e3.out);rintro e w' ⟨rfl,⟨nd,rfl⟩⟩;refine ⟨_,rfl,?_⟩))
  go_ret
  exact ⟨by first | rfl | (simp [errW_none,errW_some] <;> rfl) | (simp [*,errW_none,errW_some] <;> rfl),by repeat (first | (with_reducible first | exact HB.out | apply below_alloc | apply pw_below_drewN | apply below_drew1) | exact HB.out)⟩
 replace c8:=Bool.eq_false_iff.mpr c8
 subst c8
 have H1:(some 10) = some r:=by rw [if_neg (show ¬ (false = true) by decide)] at H;exact H
 clear H
 have H:=H1
 clear H1
 obtain rfl:=Option.some.inj H
 go_enter Try.func37,Try.ntmps37
 go_wp2_with (first | ((with_reducible refine gate_callee (f:=26) rfl ?_);refine goesL_ (some 15) rfl rfl Try.func26 (by kernel_rfl) rfl #[.int .i64 a0,.slice A1 l1.length c1,.int .i64 a2] rfl (by (try simp only [List.map_toArray,List.map_cons,List.map_nil]);first | done | rfl | (simp only [List.length_drop,List.length_take];rfl)) ?_;(with_reducible refine (shares_Award.calls k a0 _ _ l1 a2 b4 b2 _ ?side1 ?side2 A5.out).mono ?_);(case side1=>repeat (first | exact b9.out | (with_reducible refine Kd.C_alloc ?_ _) | (with_reducible refine Kd.C_drewN ?_ _) | (with_reducible refine Kd.C_drew ?_)));(case side2=>exact c0.out);rintro e e6 ⟨b8,rfl,b5,hb⟩;refine ⟨_,rfl,?_⟩;have b6:=Aside0.mk (Kd.R_lower b5 (below_size (by repeat (first | (with_reducible first | exact HB.out | apply below_alloc | apply pw_below_drewN | apply below_drew1) | exact HB.out))));have b7:=Aside0.mk (below_step (by repeat (first | (with_reducible first | exact HB.out | apply below_alloc | apply pw_below_drewN | apply below_drew1) | exact HB.out)) hb);clear HB;have b0:=b6;have HB:=b7;clear b6 b7;(try clear hb);(try clear b5);obtain ⟨d5,d6,d7⟩:=Kd.R_slice b0.out;subst d7) | ((with_reducible refine gate_callee (f:=74) rfl ?_);refine goesL_ (some 23) rfl rfl Try.func74 (by kernel_rfl) rfl #[.slice d5 b4.length d6,.slice A3 l3.length c3] rfl (by (try simp only [List.map_toArray,List.map_cons,List.map_nil]);first | done | rfl | (simp only [List.length_drop,List.length_take];rfl)) ?_;(with_reducible refine (api_Frac_74.calls k _ _ b4 _ _ l3 false _ ?side1 ?side2 ?side3 ?side4 A7.out).mono ?_);(case side1=>repeat (first | exact (Kd.R_reads' b0.out).2.2 | (with_reducible refine Kd.C_alloc ?_ _) | (with_reducible refine Kd.C_drewN ?_ _) | (with_reducible refine Kd.C_drew ?_)));(case side2=>exact (Kd.R_reads' b0.out).2.1);(case side3=>repeat (first | exact (Kd.C_below e2.out HB.out) | (with_reducible refine Kd.C_alloc ?_ _) | (with_reducible refine Kd.C_drewN ?_ _) | (with_reducible refine Kd.C_drew ?_)));(case side4=>exact e3.out);rintro e w' ⟨rfl,⟨nd,rfl⟩⟩;refine ⟨_,rfl,?_⟩))
 go_ret
 exact ⟨by first | rfl | (simp [errW_none,errW_some] <;> rfl) | (simp [*,errW_none,errW_some] <;> rfl),by repeat (first | (with_reducible first | exact HB.out | apply below_alloc | apply pw_below_drewN | apply below_drew1) | exact HB.out)⟩
end Go.Proofs.Ytjohcjfmlhihbaa.G
set_option linter.unusedSectionVars false
namespace Go.Proofs.Ytjohcjfmlhihbaa.P
open Go Go.RowKit Go.Proofs.Ytjohcjfmlhihbaa.G
open Go.Proofs.YtjohcjfmlhihbaaW.PrintWords Go.Proofs.YtjohcjfmlhihbaaW.PrintMore
theorem slEq_l0 {a b:List S23} (hl:a.length = b.length) (hs:a.length ≤ 1000000):∀ (d i:Nat),i + d = a.length → a.take i = b.take i → Ev (fun k=>api_Frac_74.l0 k a b (a.length:Int) (i:Int)) (decide (a = b)):=by
 intro d
 induction d with
 | zero =>
  intro i hi ht
  rw [List.take_of_length_le (by omega),List.take_of_length_le (by omega)] at ht
  rw [decide_eq_true ht]
  refine Ev.step (f:=fun _=>some true) (fun k=>?_) (Ev.now _)
  rw [api_Frac_74.l0,if_neg (by omega)]
 | succ d ih =>
  intro i hi ht
  have ha:i < a.length:=by omega
  have hb:i < b.length:=by omega
  by_cases e:a[i] = b[i]
  ·refine Ev.step (fun k=>?_) (ih (i + 1) (by omega) (by rw [List.take_succ_eq_append_getElem ha,List.take_succ_eq_append_getElem hb,ht,e]))
   rw [api_Frac_74.l0,if_pos (by omega),if_pos (by omega),if_pos (by omega),if_pos (by omega),rdT ha,rdT hb,e,if_neg (by simp),wrap_succ (by omega)]
  ·have hne:a ≠ b:=fun h=>e (by subst h;rfl)
   rw [decide_eq_false hne]
   refine Ev.step (f:=fun _=>some false) (fun k=>?_) (Ev.now _)
   rw [api_Frac_74.l0,if_pos (by omega),if_pos (by omega),if_pos (by omega),if_pos (by omega),rdT ha,rdT hb,if_pos]
   apply Classical.byContradiction
   intro h
   apply e
   simp only [Bool.or_eq_true,Bool.not_eq_true',beq_eq_false_iff_ne,not_or,Decidable.not_not,ne_eq] at h
   exact S23_ext h.1 h.2
theorem ev_slEq {a b:List S23} (hs:a.length ≤ 1000000):Ev (fun k=>api_Frac_74.f k a b) (decide (a = b)):=by
 unfold api_Frac_74.f
 by_cases hl:a.length = b.length
 ·refine Ev.congr (fun k=>if_pos (by omega)) ?_
  exact slEq_l0 hl hs a.length 0 (by omega) rfl
 ·rw [decide_eq_false (fun h=>hl (by rw [h]))]
  exact Ev.congr (fun k=>if_neg (by omega)) (Ev.now _)
theorem ev_Right {r E:Int} {l:List Int} {w x:List S23} (hx:x.length ≤ 1000000) (ha:Ev (fun k=>shares_Award.f k r l E) (x,0)):Ev (fun k=>shares_Right.f k r l E w) (if x = w then 0 else 10):=by
 unfold shares_Right.f
 refine Ev.bind ha ?_
 simp only [if_true]
 refine Ev.bind (ev_slEq hx) ?_
 by_cases h:x = w
 ·rw [if_pos h,decide_eq_true h];exact Ev.now _
 ·rw [if_neg h,decide_eq_false h];exact Ev.now _
end Go.Proofs.Ytjohcjfmlhihbaa.P
