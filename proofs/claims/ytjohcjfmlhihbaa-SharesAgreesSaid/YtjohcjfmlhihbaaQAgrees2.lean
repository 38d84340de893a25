/- Several texts, joined. -/
import Derived.Test.YtjohcjfmlhihbaaQAgrees1
set_option linter.unusedVariables false
set_option linter.unusedSimpArgs false
namespace Go.Proofs.Ytjohcjfmlhihbaa.G
open Go.RowKit Go.Proofs.YtjohcjfmlhihbaaW.PrintWords Go.Proofs.YtjohcjfmlhihbaaW.PrintLast Go.Proofs.YtjohcjfmlhihbaaW.PrintMore
set_option maxHeartbeats 8000000
set_option maxRecDepth 100000
attribute [local go_sem] cond_true cond_false fld23_0 fld23_1 fld45_0 fld45_1 fld109_0 fld109_1 fld94_0 fld94_1 max2_int min2_int max_two min_two max_three min_three max_four min_four
attribute [local go_sem high] eqA23
mutual
def shares_Agrees.l0:Nat → List Int → List (S23) → Int → Int → Option (Int × Int × Bool × Int)
 | 0,_,_,_,_=>none
 | k + 1,x0,x2,z2,x9=>if x9 < z2 then (shares_Agrees.l1 k x0 x2 x9 (wrap64 (x9 + 1)) z2 x9) else (some (0,0,true,0))
def shares_Agrees.l1:Nat → List Int → List (S23) → Int → Int → Int → Int → Option (Int × Int × Bool × Int)
 | 0,_,_,_,_,_,_=>none
 | k + 1,x0,x2,t3,t4,z2,x9=>if t4 < (x0.length:Int) then (if 0 ≤ t3 then (if t3 < (x2.length:Int) then (if 0 ≤ t4 then (if t4 < (x2.length:Int) then ((shares_add.f k ((rd_T23 x2 t3).f0) ((rd_T23 x2 t3).f1) ((rd_T23 x2 t4).f0) ((rd_T23 x2 t4).f1)).bind fun t5=>(if t3 < (x0.length:Int) then ((shares_garment.f k t5.1 t5.2 (rd x0 t3) (rd x0 t4)).bind fun s0=>(if (!(s0.1 == ((rd_T23 x2 t3).f0)) || (!(s0.2.1 == ((rd_T23 x2 t3).f1)))) = true then (some (t3,t4,false,0)) else (if (!(s0.2.2.1 == ((rd_T23 x2 t4).f0)) || (!(s0.2.2.2 == ((rd_T23 x2 t4).f1)))) = true then (some (t3,t4,false,0)) else (shares_Agrees.l1 k x0 x2 t3 (wrap64 (t4 + 1)) z2 x9)))) else (none))) else (none)) else (none)) else (none)) else (none)) else (shares_Agrees.l0 k x0 x2 z2 (wrap64 (x9 + 1)))
end
def shares_Agrees.f (k:Nat) (l0:List Int) (a1:Int) (l2:List (S23)):Option (Int × Int × Bool × Int):=(newClaimsR.f k l0 a1).bind fun r9=>(if r9 = true then ((shares_claims_isAward.f k l0 a1 l2).bind fun q4=>(if q4 = true then (shares_Agrees.l0 k l0 l2 (l0.length:Int) 0) else (some (0,0,false,10)))) else (some (0,0,false,2)))
theorem shares_Agrees.mono_l:∀ k,(∀ y0 y1 y2 y3,LeO (shares_Agrees.l0 k y0 y1 y2 y3) (shares_Agrees.l0 (k + 1) y0 y1 y2 y3)) ∧ (∀ y0 y1 y2 y3 y4 y5,LeO (shares_Agrees.l1 k y0 y1 y2 y3 y4 y5) (shares_Agrees.l1 (k + 1) y0 y1 y2 y3 y4 y5))
 | 0=>⟨fun _ _ _ _ r h=>by simp [shares_Agrees.l0] at h,fun _ _ _ _ _ _ r h=>by simp [shares_Agrees.l1] at h⟩
 | k + 1=>by
  obtain ⟨z9,A1⟩:=shares_Agrees.mono_l k
  refine ⟨?_,?_⟩
  ·intro y0 y1 y2 y3
   unfold shares_Agrees.l0
   repeat' first
   | (with_reducible first | exact z9 _ _ _ _ | exact A1 _ _ _ _ _ _ | exact newClaimsR.mono _ _ _ | exact shares_add.mono _ _ _ _ _ | exact shares_claims_isAward.mono _ _ _ _ | exact shares_garment.mono _ _ _ _ _ | exact LeO.refl _ | exact LeO.none _ | refine LeO.ite ?_ ?_ | refine LeO.bind ?_ (fun _=>?_))
   | exact LeO.none _ | refine LeO.ite ?_ ?_ | refine LeO.bind ?_ (fun _=>?_)
  intro y0 y1 y2 y3 y4 y5
  unfold shares_Agrees.l1
  repeat' first
  | (with_reducible first | exact z9 _ _ _ _ | exact A1 _ _ _ _ _ _ | exact newClaimsR.mono _ _ _ | exact shares_add.mono _ _ _ _ _ | exact shares_claims_isAward.mono _ _ _ _ | exact shares_garment.mono _ _ _ _ _ | exact LeO.refl _ | exact LeO.none _ | refine LeO.ite ?_ ?_ | refine LeO.bind ?_ (fun _=>?_))
  | exact LeO.none _ | refine LeO.ite ?_ ?_ | refine LeO.bind ?_ (fun _=>?_)
theorem shares_Agrees.mono:∀ a0 a1 a2 k,LeO (shares_Agrees.f k a0 a1 a2) (shares_Agrees.f (k + 1) a0 a1 a2):=by
 intro a0 a1 a2 k
 obtain ⟨z9,A1⟩:=shares_Agrees.mono_l k
 unfold shares_Agrees.f
 repeat' first
   | (with_reducible first | exact z9 _ _ _ _ | exact A1 _ _ _ _ _ _ | exact newClaimsR.mono _ _ _ | exact shares_add.mono _ _ _ _ _ | exact shares_claims_isAward.mono _ _ _ _ | exact shares_garment.mono _ _ _ _ _ | exact LeO.refl _ | exact LeO.none _ | refine LeO.ite ?_ ?_ | refine LeO.bind ?_ (fun _=>?_))
   | exact LeO.none _ | refine LeO.ite ?_ ?_ | refine LeO.bind ?_ (fun _=>?_)
def shares_Agrees.T12:Bool × List (List Nat × List Nat):=(true,[([],[]),([],[]),([0,1],[0,1]),([2],[2]),([],[]),([],[]),([4,5],[4,5]),([6],[6]),([3,7],[3,7]),([],[]),([],[]),([9,10],[9,10]),([11],[11]),([],[]),([],[]),([13,14],[13,14]),([15],[15]),([8,12,16,8],[8,12,16]),([17],[17]),([18],[18]),([18],[18]),([],[]),([],[]),([21,19,17,0,1,2,3,4,5,6,7,8,9,10,11,12,13,14,15,16,17,18,19,21,22],[19,21]),([22,20,23,0,1,2,3,4,5,6,7,8,9,10,11,12,13,14,15,16,17,18,19,20,21,22,23],[20,22])])
def shares_Agrees.B12:List Nat:=[0,0,3,7,0,0,48,112,255,0,0,1536,3584,0,0,24576,57344,131071,262143,524287,524287,0,0,7340031,16777215]
theorem shares_Agrees.tab12:rtab .any (opsOf Try.f54 12) = shares_Agrees.T12:=by kernel_rfl
theorem shares_Agrees.bits12:waitsOk shares_Agrees.T12.2 shares_Agrees.B12 = true:=by kernel_rfl
def shares_Agrees.T13:Bool × List (List Nat × List Nat):=(true,[([],[]),([],[]),([],[]),([1,2],[1,2]),([3],[3]),([0,4],[0,4]),([5],[5]),([6],[6]),([6],[6]),([6],[6]),([8,9,6],[6,8,9]),([10,6],[6,10]),([7,11,6],[6,7,11]),([6,12],[6,12])])
def shares_Agrees.B13:List Nat:=[0,0,0,6,14,31,63,127,127,127,895,1919,4095,8191]
theorem shares_Agrees.tab13:rtab .any (opsOf Try.f54 13) = shares_Agrees.T13:=by kernel_rfl
theorem shares_Agrees.bits13:waitsOk shares_Agrees.T13.2 shares_Agrees.B13 = true:=by kernel_rfl
theorem shares_Agrees.calls (k:Nat) (A0:Option Addr) (c0:Nat) (l0:List Int) (a1:Int) (A2:Option Addr) (c2:Nat) (l2:List (S23)) (r1:Int) (r2:Int) (r3:Bool) (r4:Int) (w:World) (M2:Kd.C (Kd.int .i64) w A0 l0.length l0) (M3:l0.length ≤ c0) (M4:Kd.C k23 w A2 l2.length l2) (M5:l2.length ≤ c2) (h:shares_Agrees.f k l0 a1 l2 = some (r1,r2,r3,r4)) :
  Calls Try.prog 54 #[.slice A0 l0.length c0,.int .i64 a1,.slice A2 l2.length c2] w fun e w'=>e = .returned (.tuple #[.agg #[.int .i64 r1,.int .i64 r2],.bool r3,.int .i64 r4]) ∧ Below w.heap.size w w':=by
 have R9:=Try.underlying51
 have S0:=Try.underlying94
 have S1:=Try.underlying23
 have t6:=A_ M2
 have z3:=A_ M3
 clear M2 M3
 have t0:=A_ M4
 have M6:=A_ M5
 clear M4 M5
 have HB:=A_ (Below.refl w.heap.size w)
 have H:((newClaimsR.f k l0 a1).bind fun r9=>(if r9 = true then ((shares_claims_isAward.f k l0 a1 l2).bind fun q4=>(if q4 = true then (shares_Agrees.l0 k l0 l2 (l0.length:Int) 0) else (some (0,0,false,10)))) else (some (0,0,false,2)))) = some (r1,r2,r3,r4):=h
 clear h
 replace H:=Option.bind_eq_some_iff.mp H
 obtain ⟨r9,M7,H⟩:=H
 replace H:(if r9 = true then ((shares_claims_isAward.f k l0 a1 l2).bind fun q4=>(if q4 = true then (shares_Agrees.l0 k l0 l2 (l0.length:Int) 0) else (some (0,0,false,10)))) else (some (0,0,false,2))) = some (r1,r2,r3,r4):=H
 have A4:=A_ M7
 clear M7
 by_cases c5:r9 = true
 case neg =>
  replace c5:=Bool.eq_false_iff.mpr c5
  subst c5
  rw [if_neg (show ¬ (false = true) by decide)] at H
  simp only [Option.some.injEq,Prod.mk.injEq] at H
  obtain ⟨rfl,rfl,rfl,rfl⟩:=H
  go_enter Try.func54,Try.ntmps54
  go_wp2_with (first | ((with_reducible refine gate_dst (N:=6) rfl ?_);refine bx 6 #[.int .i64 0,.int .i64 0] 51 ?_;intro d4 hg U8 hbox hb;have b3:=A_ hbox;have q8:=gw hg HB;have t7:=q8;replace HB:=bB HB hb;clear hb hbox hg) | ((with_reducible refine gate_callee (f:=62) rfl ?_);refine gL (some 18) Try.func62 #[.slice A0 l0.length c0,.int .i64 a1] ?_;(with_reducible refine (newClaimsR.calls k _ _ l0 a1 false _ ?side1 ?side2 A4.out).mono ?_);(case side1=>exact cB t6 HB);(case side2=>exact z3.out);rintro e U9 ⟨rfl,hb⟩;refine ⟨_,rfl,?_⟩;replace b3:=kB b3 hb;replace HB:=bB HB hb;(try clear hb)) | ((with_reducible refine gate_dst (N:=9) rfl ?_);refine bx 9 #[.slice none 0 0,.int .i64 0] 94 ?_;intro t8 hg A3 hbox hb;have s1:=A_ hbox;have y6:=gw hg HB;have M1:=y6;have o6:=nl hg b3;have s2:=ng hg b3;replace b3:=kB b3 hb;replace HB:=bB HB hb;clear hb hbox hg;have M8:=s2.out;have M9:=o6.out;have A5:A3.cell? ⟨t8,0,none⟩ = some (.slice none 0 0):=cz s1 0;have A7:A3.cell? ⟨t8,1,none⟩ = some (.int .i64 0):=cz s1 1;have A8:=blk_frozen s1.out 0;have A9:=blk_frozen s1.out 1;have B0:A3.cell? ⟨d4,0,none⟩ = some (.int .i64 0):=cz b3 0;have C0:A3.cell? ⟨d4,1,none⟩ = some (.int .i64 0):=cz b3 1;have C1:=blk_frozen b3.out 0;have C2:=blk_frozen b3.out 1))
  refine bodyPost_ret (results_ctt rfl _ _ d4 51 #[.int .i64 0,.int .i64 0] (0,0) _ rfl (by (with_reducible repeat (first | refine blk_drewN ?_ _ | refine blk_drew ?_ | refine blk_alloc ?_ _));refine blk_put (cs:=#[.int .i64 0,.int .i64 0]) ?_ 1 _ rfl;(with_reducible repeat (first | refine blk_drewN ?_ _ | refine blk_drew ?_ | refine blk_alloc ?_ _));refine blk_put (cs:=#[.int .i64 0,.int .i64 0]) ?_ 0 _ rfl;(with_reducible repeat (first | refine blk_drewN ?_ _ | refine blk_drew ?_ | refine blk_alloc ?_ _));refine blk_far ?_ o6.out _;(with_reducible repeat (first | refine blk_drewN ?_ _ | refine blk_drew ?_ | refine blk_alloc ?_ _));refine blk_far ?_ o6.out _;(with_reducible repeat (first | refine blk_drewN ?_ _ | refine blk_drew ?_ | refine blk_alloc ?_ _));exact b3.out) Try.underlying51 rfl (by kernel_rfl)) rfl ?_
  exact ⟨by first | rfl | (simp [errW_none,errW_some] <;> rfl) | (simp [*,errW_none,errW_some] <;> rfl),bl HB⟩
 subst c5
 rw [if_pos rfl] at H
 replace H:=Option.bind_eq_some_iff.mp H
 obtain ⟨q4,N0,H⟩:=H
 replace H:(if q4 = true then (shares_Agrees.l0 k l0 l2 (l0.length:Int) 0) else (some (0,0,false,10))) = some (r1,r2,r3,r4):=H
 have A6:=A_ N0
 clear N0
 by_cases c7:q4 = true
 case neg =>
  replace c7:=Bool.eq_false_iff.mpr c7
  subst c7
  rw [if_neg (show ¬ (false = true) by decide)] at H
  simp only [Option.some.injEq,Prod.mk.injEq] at H
  obtain ⟨rfl,rfl,rfl,rfl⟩:=H
  go_enter Try.func54,Try.ntmps54
  go_wp2_with (first | ((with_reducible refine gate_dst (N:=6) rfl ?_);refine bx 6 #[.int .i64 0,.int .i64 0] 51 ?_;intro d4 hg V0 hbox hb;have b3:=A_ hbox;have q8:=gw hg HB;have t7:=q8;replace HB:=bB HB hb;clear hb hbox hg) | ((with_reducible refine gate_callee (f:=62) rfl ?_);refine gL (some 18) Try.func62 #[.slice A0 l0.length c0,.int .i64 a1] ?_;(with_reducible refine (newClaimsR.calls k _ _ l0 a1 true _ ?side1 ?side2 A4.out).mono ?_);(case side1=>exact cB t6 HB);(case side2=>exact z3.out);rintro e V1 ⟨rfl,hb⟩;refine ⟨_,rfl,?_⟩;replace b3:=kB b3 hb;replace HB:=bB HB hb;(try clear hb)) | ((with_reducible refine gate_dst (N:=9) rfl ?_);refine bx 9 #[.slice none 0 0,.int .i64 0] 94 ?_;intro d5 hg N1 hbox hb;have b4:=A_ hbox;have s8:=gw hg HB;have y7:=s8;have i8:=nl hg b3;have m3:=ng hg b3;replace b3:=kB b3 hb;replace HB:=bB HB hb;clear hb hbox hg;have N2:=m3.out;have N3:=i8.out;have C3:N1.cell? ⟨d5,0,none⟩ = some (.slice none 0 0):=cz b4 0;have C4:N1.cell? ⟨d5,1,none⟩ = some (.int .i64 0):=cz b4 1;have C5:=blk_frozen b4.out 0;have C6:=blk_frozen b4.out 1) | ((with_reducible refine gate_callee (f:=87) rfl ?_);refine gL (some 26) Try.func87 #[.agg #[.slice A0 l0.length c0,.int .i64 a1],.slice A2 l2.length c2] ?_;(with_reducible refine (shares_claims_isAward.calls k _ _ l0 a1 _ _ l2 false _ ?side1 ?side2 ?side3 ?side4 A6.out).mono ?_);(case side1=>exact Kd.C_below t6.out (bl HB));(case side2=>exact z3.out);(case side3=>exact Kd.C_below t0.out (bl HB));(case side4=>exact M6.out);rintro e N4 ⟨rfl,hb⟩;refine ⟨_,rfl,?_⟩;replace b3:=A_ (blk_below (g:=d4) (o:=.cells #[.int .i64 0,.int .i64 0] 51 (0,0)) (by (with_reducible repeat (first | refine blk_drewN ?_ _ | refine blk_drew ?_ | refine blk_alloc ?_ _));refine blk_far ?_ i8.out _;(with_reducible repeat (first | refine blk_drewN ?_ _ | refine blk_drew ?_ | refine blk_alloc ?_ _));refine blk_far ?_ i8.out _;(with_reducible repeat (first | refine blk_drewN ?_ _ | refine blk_drew ?_ | refine blk_alloc ?_ _));exact b3.out) hb);replace b4:=A_ (blk_below (g:=d5) (o:=.cells #[.slice A0 l0.length c0,.int .i64 a1] 94 (0,0)) (by (with_reducible repeat (first | refine blk_drewN ?_ _ | refine blk_drew ?_ | refine blk_alloc ?_ _));refine blk_put (cs:=#[.slice A0 l0.length c0,.int .i64 0]) ?_ 1 _ rfl;(with_reducible repeat (first | refine blk_drewN ?_ _ | refine blk_drew ?_ | refine blk_alloc ?_ _));refine blk_put (cs:=#[.slice none 0 0,.int .i64 0]) ?_ 0 _ rfl;(with_reducible repeat (first | refine blk_drewN ?_ _ | refine blk_drew ?_ | refine blk_alloc ?_ _));exact b4.out) hb);replace HB:=bB HB hb;(try clear hb);have C7:N4.cell? ⟨d4,0,none⟩ = some (.int .i64 0):=cz b3 0;have C8:N4.cell? ⟨d4,1,none⟩ = some (.int .i64 0):=cz b3 1;have C9:=blk_frozen b3.out 0;have D0:=blk_frozen b3.out 1))
  refine bodyPost_ret (results_ctt rfl _ _ d4 51 #[.int .i64 0,.int .i64 0] (0,0) _ rfl (by (with_reducible repeat (first | refine blk_drewN ?_ _ | refine blk_drew ?_ | refine blk_alloc ?_ _));refine blk_put (cs:=#[.int .i64 0,.int .i64 0]) ?_ 1 _ rfl;(with_reducible repeat (first | refine blk_drewN ?_ _ | refine blk_drew ?_ | refine blk_alloc ?_ _));refine blk_put (cs:=#[.int .i64 0,.int .i64 0]) ?_ 0 _ rfl;(with_reducible repeat (first | refine blk_drewN ?_ _ | refine blk_drew ?_ | refine blk_alloc ?_ _));exact b3.out) Try.underlying51 rfl (by kernel_rfl)) rfl ?_
  exact ⟨by first | rfl | (simp [errW_none,errW_some] <;> rfl) | (simp [*,errW_none,errW_some] <;> rfl),bl HB⟩
 subst c7
 rw [if_pos rfl] at H
 have H':=A_ H
 clear H
 go_enter Try.func54,Try.ntmps54
 go_wp2_with (first | ((with_reducible refine gate_dst (N:=6) rfl ?_);refine bx 6 #[.int .i64 0,.int .i64 0] 51 ?_;intro d4 hg w8 hbox hb;have b3:=A_ hbox;have q8:=gw hg HB;have t7:=q8;replace HB:=bB HB hb;clear hb hbox hg) | ((with_reducible refine gate_callee (f:=62) rfl ?_);refine gL (some 18) Try.func62 #[.slice A0 l0.length c0,.int .i64 a1] ?_;(with_reducible refine (newClaimsR.calls k _ _ l0 a1 true _ ?side1 ?side2 A4.out).mono ?_);(case side1=>exact cB t6 HB);(case side2=>exact z3.out);rintro e w9 ⟨rfl,hb⟩;refine ⟨_,rfl,?_⟩;replace b3:=kB b3 hb;replace HB:=bB HB hb;(try clear hb)) | ((with_reducible refine gate_dst (N:=9) rfl ?_);refine bx 9 #[.slice none 0 0,.int .i64 0] 94 ?_;intro d5 hg N5 hbox hb;have b4:=A_ hbox;have s8:=gw hg HB;have y7:=s8;have i8:=nl hg b3;have m3:=ng hg b3;replace b3:=kB b3 hb;replace HB:=bB HB hb;clear hb hbox hg;have N6:=m3.out;have N7:=i8.out;have D1:N5.cell? ⟨d5,0,none⟩ = some (.slice none 0 0):=cz b4 0;have D2:N5.cell? ⟨d5,1,none⟩ = some (.int .i64 0):=cz b4 1;have D3:=blk_frozen b4.out 0;have D4:=blk_frozen b4.out 1) | ((with_reducible refine gate_callee (f:=87) rfl ?_);refine gL (some 26) Try.func87 #[.agg #[.slice A0 l0.length c0,.int .i64 a1],.slice A2 l2.length c2] ?_;(with_reducible refine (shares_claims_isAward.calls k _ _ l0 a1 _ _ l2 true _ ?side1 ?side2 ?side3 ?side4 A6.out).mono ?_);(case side1=>exact Kd.C_below t6.out (bl HB));(case side2=>exact z3.out);(case side3=>exact Kd.C_below t0.out (bl HB));(case side4=>exact M6.out);rintro e V2 ⟨rfl,hb⟩;refine ⟨_,rfl,?_⟩;replace b3:=A_ (blk_below (g:=d4) (o:=.cells #[.int .i64 0,.int .i64 0] 51 (0,0)) (by (with_reducible repeat (first | refine blk_drewN ?_ _ | refine blk_drew ?_ | refine blk_alloc ?_ _));refine blk_far ?_ i8.out _;(with_reducible repeat (first | refine blk_drewN ?_ _ | refine blk_drew ?_ | refine blk_alloc ?_ _));refine blk_far ?_ i8.out _;(with_reducible repeat (first | refine blk_drewN ?_ _ | refine blk_drew ?_ | refine blk_alloc ?_ _));exact b3.out) hb);replace b4:=A_ (blk_below (g:=d5) (o:=.cells #[.slice A0 l0.length c0,.int .i64 a1] 94 (0,0)) (by (with_reducible repeat (first | refine blk_drewN ?_ _ | refine blk_drew ?_ | refine blk_alloc ?_ _));refine blk_put (cs:=#[.slice A0 l0.length c0,.int .i64 0]) ?_ 1 _ rfl;(with_reducible repeat (first | refine blk_drewN ?_ _ | refine blk_drew ?_ | refine blk_alloc ?_ _));refine blk_put (cs:=#[.slice none 0 0,.int .i64 0]) ?_ 0 _ rfl;(with_reducible repeat (first | refine blk_drewN ?_ _ | refine blk_drew ?_ | refine blk_alloc ?_ _));exact b4.out) hb);replace HB:=bB HB hb;(try clear hb)))
 go_loopg [31] k (fun kq S2 w'=>∃ (b0:Int) (o1:Int) (m6:Int),S2 = .int .i64 b0 ∧ Aside0 (shares_Agrees.l0 kq l0 l2 (l0.length:Int) b0 = some (r1,r2,r3,r4)) ∧ Aside0 (kq ≤ k) ∧ Aside0 (w'.heap[d4]? = some (.cells #[.int .i64 o1,.int .i64 m6] 51 (0,0))) ∧ Aside0 (w'.heap[d5]? = some (.cells #[(.slice A0 l0.length c0),.int .i64 a1] 94 (0,0))) ∧ Aside0 (Below w.heap.size w w'))
 case atStart=>exact ⟨(0),(0),(0),(by first | rfl | (simp;done) | (simp [*];done)),H',⟨Nat.le_refl _⟩,⟨by (with_reducible repeat (first | refine blk_drewN ?_ _ | refine blk_drew ?_ | refine blk_alloc ?_ _));exact b3.out⟩,⟨by (with_reducible repeat (first | refine blk_drewN ?_ _ | refine blk_drew ?_ | refine blk_alloc ?_ _));exact b4.out⟩,⟨bl HB⟩⟩
 case round =>
  clear H'
  obtain ⟨b0,o1,m6,rfl,HA,D5,b3,b4,HB⟩:=hrel
  cases gk with
  | zero=>exact absurd HA.out (by simp [shares_Agrees.l0])
  | succ k1 =>
   have H:=HA.out
   clear HA
   simp only [shares_Agrees.l0] at H
   by_cases y8:b0 < (l0.length:Int)
   case neg =>
    rw [if_neg y8] at H
    have z4:=decide_eq_false y8
    clear y8
    simp only [Option.some.injEq,Prod.mk.injEq] at H
    obtain ⟨rfl,rfl,rfl,rfl⟩:=H
    have N8:=i8.out
    have N9:=m3.out
    have D6:wr.cell? ⟨d4,0,none⟩ = some (.int .i64 o1):=cz b3 0
    have D7:wr.cell? ⟨d4,1,none⟩ = some (.int .i64 m6):=cz b3 1
    have D8:=blk_frozen b3.out 0
    have D9:=blk_frozen b3.out 1
    go_wp2
    refine bodyPost_ret (results_ctt rfl _ _ d4 51 #[.int .i64 0,.int .i64 0] (0,0) _ rfl (by (with_reducible repeat (first | refine blk_drewN ?_ _ | refine blk_drew ?_ | refine blk_alloc ?_ _));refine blk_put (cs:=#[.int .i64 0,.int .i64 m6]) ?_ 1 _ rfl;(with_reducible repeat (first | refine blk_drewN ?_ _ | refine blk_drew ?_ | refine blk_alloc ?_ _));refine blk_put (cs:=#[.int .i64 o1,.int .i64 m6]) ?_ 0 _ rfl;(with_reducible repeat (first | refine blk_drewN ?_ _ | refine blk_drew ?_ | refine blk_alloc ?_ _));exact b3.out) Try.underlying51 rfl (by kernel_rfl)) rfl ?_
    exact ⟨by first | rfl | (simp [errW_none,errW_some] <;> rfl) | (simp [*,errW_none,errW_some] <;> rfl),bl HB⟩
   rw [if_pos y8] at H
   have z4:=decide_eq_true y8
   clear y8
   have H':=A_ H
   clear H
   go_wp2
   go_loopg [12] k1 (fun kq S3 w'=>∃ (b1:Int) (e8:Int) (e7:Int),S3 = .int .i64 b1 ∧ Aside0 (shares_Agrees.l1 kq l0 l2 b0 b1 (l0.length:Int) b0 = some (r1,r2,r3,r4)) ∧ Aside0 (kq ≤ k1) ∧ Aside0 (w'.heap[d4]? = some (.cells #[.int .i64 e8,.int .i64 e7] 51 (0,0))) ∧ Aside0 (w'.heap[d5]? = some (.cells #[(.slice A0 l0.length c0),.int .i64 a1] 94 (0,0))) ∧ Aside0 (Below w.heap.size w w'))
   case atStart=>exact ⟨(wrap64 (b0 + 1)),(o1),(m6),(by first | rfl | (simp;done) | (simp [*];done)),H',⟨Nat.le_refl _⟩,⟨by (with_reducible repeat (first | refine blk_drewN ?_ _ | refine blk_drew ?_ | refine blk_alloc ?_ _));exact b3.out⟩,⟨by (with_reducible repeat (first | refine blk_drewN ?_ _ | refine blk_drew ?_ | refine blk_alloc ?_ _));exact b4.out⟩,⟨bl HB⟩⟩
   case round =>
    clear H'
    obtain ⟨b1,e8,e7,rfl,HA,E0,b3,b4,HB⟩:=hrel
    cases gk with
    | zero=>exact absurd HA.out (by simp [shares_Agrees.l1])
    | succ k2 =>
     have H:=HA.out
     clear HA
     simp only [shares_Agrees.l1] at H
     by_cases y9:b1 < (l0.length:Int)
     case neg =>
      rw [if_neg y9] at H
      have z5:=decide_eq_false y9
      clear y9
      have H':=A_ H
      clear H
      go_wp2
      go_roundg k2
      case measure=>have:=D5.out;have:=E0.out;omega
      case rel=>exact ⟨(wrap64 (b0 + 1)),(e8),(e7),(by first | rfl | (simp;done) | (simp [*];done)),H',⟨by have:=D5.out;have:=E0.out;omega⟩,⟨by (with_reducible repeat (first | refine blk_drewN ?_ _ | refine blk_drew ?_ | refine blk_alloc ?_ _));exact b3.out⟩,⟨by (with_reducible repeat (first | refine blk_drewN ?_ _ | refine blk_drew ?_ | refine blk_alloc ?_ _));exact b4.out⟩,⟨bl HB⟩⟩
     rw [if_pos y9] at H
     have z5:=decide_eq_true y9
     clear y9
     replace H:=gd H
     obtain ⟨O0,H⟩:=H
     have O1:=decide_eq_true O0
     clear O0
     replace H:=gd H
     obtain ⟨O2,H⟩:=H
     have O3:=decide_eq_true O2
     clear O2
     replace H:=gd H
     obtain ⟨O4,H⟩:=H
     have O5:=decide_eq_true O4
     clear O4
     replace H:=gd H
     obtain ⟨O6,H⟩:=H
     have O7:=decide_eq_true O6
     clear O6
     replace H:=Option.bind_eq_some_iff.mp H
     obtain ⟨⟨h7,h8⟩,A200,H⟩:=H
     dsimp only at H
     have t1:=A_ A200
     clear A200
     replace H:=gd H
     obtain ⟨O8,H⟩:=H
     have O9:=decide_eq_true O8
     clear O8
     replace H:=Option.bind_eq_some_iff.mp H
     obtain ⟨⟨h3,h5,h4,h6⟩,A220,H⟩:=H
     dsimp only at H
     have t2:=A_ A220
     clear A220
     by_cases z0:(!(h3 == ((rd_T23 l2 b0).f0)) || (!(h5 == ((rd_T23 l2 b0).f1)))) = true
     ·rw [if_pos z0] at H
      have z6:(!(h3 == ((rd_T23 l2 b0).f0)) || (!(h5 == ((rd_T23 l2 b0).f1)))) = true:=z0
      clear z0
      simp only [Option.some.injEq,Prod.mk.injEq] at H
      obtain ⟨rfl,rfl,rfl,rfl⟩:=H
      try go_wp2
      replace b3:=kD b3
      replace b4:=kD b4
      replace HB:=bD HB
      have o7:0 ≤ (b0:Int):=of_decide_eq_true (by first | (with_reducible assumption) | assumption)
      have o8:b0 < (l2.length:Int):=of_decide_eq_true (by first | (with_reducible assumption) | assumption)
      obtain ⟨b2,s3,i0,i1⟩:=at_T23 t0.out b0 o7 o8
      have b7:=i1
      have b8:=i0
      cases s3
      replace i0:=(HB.out.cell (World.block_lt_of_cell? w _ i0)).trans i0
      replace i1:=(HB.out.cell (World.block_lt_of_cell? w _ i1)).trans i1
      replace o7:=eq_true o7
      replace o8:=eq_true o8
      have o9:0 ≤ (b1:Int):=of_decide_eq_true (by first | (with_reducible assumption) | assumption)
      have p0:b1 < (l2.length:Int):=of_decide_eq_true (by first | (with_reducible assumption) | assumption)
      obtain ⟨q9,s4,i2,i3⟩:=at_T23 t0.out b1 o9 p0
      have b9:=i3
      have c1:=i2
      obtain rfl:b2 = q9:=(by injection s4)
      replace i2:=(HB.out.cell (World.block_lt_of_cell? w _ i2)).trans i2
      replace i3:=(HB.out.cell (World.block_lt_of_cell? w _ i3)).trans i3
      replace o9:=eq_true o9
      replace p0:=eq_true p0
      have p1:0 ≤ (b0:Int):=of_decide_eq_true (by first | (with_reducible assumption) | assumption)
      have p2:b0 < (l0.length:Int):=of_decide_eq_true (by first | (with_reducible assumption) | assumption)
      obtain ⟨d6,s5,i4⟩:=Kd.at_int t6.out b0 p1 p2
      have d0:=i4
      cases s5
      replace i4:=(HB.out.cell (World.block_lt_of_cell? w _ i4)).trans i4
      replace p1:=eq_true p1
      replace p2:=eq_true p2
      have p3:0 ≤ (b1:Int):=of_decide_eq_true (by first | (with_reducible assumption) | assumption)
      have p4:b1 < (l0.length:Int):=of_decide_eq_true (by first | (with_reducible assumption) | assumption)
      obtain ⟨r0,s6,i5⟩:=Kd.at_int t6.out b1 p3 p4
      have d1:=i5
      obtain rfl:d6 = r0:=(by injection s6)
      replace i5:=(HB.out.cell (World.block_lt_of_cell? w _ i5)).trans i5
      replace p3:=eq_true p3
      replace p4:=eq_true p4
      refine start_ (n:=25) (S:=fun w'=>w'.cell? (b2.add ((b0).toNat * 2)) = some (.int .i64 ((rd_T23 l2 b0).f0)) ∧ w'.cell? ⟨(b2.add ((b0).toNat * 2)).block,(b2.add ((b0).toNat * 2)).off + 1,none⟩ = some (.int .i64 ((rd_T23 l2 b0).f1)) ∧ w'.cell? (b2.add ((b1).toNat * 2)) = some (.int .i64 ((rd_T23 l2 b1).f0)) ∧ w'.cell? ⟨(b2.add ((b1).toNat * 2)).block,(b2.add ((b1).toNat * 2)).off + 1,none⟩ = some (.int .i64 ((rd_T23 l2 b1).f1)) ∧ w'.cell? (d6.add (b0).toNat) = some (.int .i64 (rd l0 b0)) ∧ w'.cell? (d6.add (b1).toNat) = some (.int .i64 (rd l0 b1))) (ds:=[]) (ba 25 0) (by kernel_rfl) rfl rfl ⟨((HB.out.cell (World.block_lt_of_cell? w _ b8)).trans b8),((HB.out.cell (World.block_lt_of_cell? w _ b7)).trans b7),((HB.out.cell (World.block_lt_of_cell? w _ c1)).trans c1),((HB.out.cell (World.block_lt_of_cell? w _ b9)).trans b9),((HB.out.cell (World.block_lt_of_cell? w _ d0)).trans d0),((HB.out.cell (World.block_lt_of_cell? w _ d1)).trans d1)⟩ (fun hHeld=>?_);refine with_tabW shares_Agrees.tab12 shares_Agrees.bits12 (fun HT_ HW_=>?_)
      generalize wr.drew = V3 at b3 b4 HB i0 i1 i2 i3 i4 i5 hHeld ⊢
      refine pq 0 43 1 HT_ ?_
      refine pq 1 44 3 HT_ ?_
      refine pq 2 45 7 HT_ ?_
      refine pq 4 47 23 HT_ ?_
      refine pq 5 48 55 HT_ ?_
      refine pq 6 49 119 HT_ ?_
      refine pq 9 52 631 HT_ ?_
      refine pq 10 53 1655 HT_ ?_
      refine pq 11 54 3703 HT_ ?_
      refine pq 13 56 11895 HT_ ?_
      refine pq 14 57 28279 HT_ ?_
      refine pq 15 58 61047 HT_ ?_
      refine tq 3 46 61055 HT_ HW_ hHeld ?_
      refine tq 7 50 61183 HT_ HW_ hHeld ?_
      refine tq 12 55 65279 HT_ HW_ hHeld ?_
      refine tq 16 59 130815 HT_ HW_ hHeld ?_
      refine join_ (σ:=Nat × Nat) 2 (ba 25 8388607) (fun s_=>[(51,.agg #[.int .i64 h7,.int .i64 h8]),(60,.tuple #[.agg #[.int .i64 h3,.int .i64 h5],.agg #[.int .i64 h4,.int .i64 h6]]),(13,.pointer (some ⟨s_.1,0,none⟩)),(14,.pointer (some ⟨s_.2,0,none⟩)),(42,.tuple #[.agg #[.int .i64 h3,.int .i64 h5],.agg #[.int .i64 h4,.int .i64 h6]]),(61,.agg #[.int .i64 h3,.int .i64 h5]),(62,.agg #[.int .i64 h4,.int .i64 h6])]) (fun s_ w'=>(w'.cell? (b2.add ((b0).toNat * 2)) = some (.int .i64 ((rd_T23 l2 b0).f0)) ∧ w'.cell? ⟨(b2.add ((b0).toNat * 2)).block,(b2.add ((b0).toNat * 2)).off + 1,none⟩ = some (.int .i64 ((rd_T23 l2 b0).f1)) ∧ w'.cell? (b2.add ((b1).toNat * 2)) = some (.int .i64 ((rd_T23 l2 b1).f0)) ∧ w'.cell? ⟨(b2.add ((b1).toNat * 2)).block,(b2.add ((b1).toNat * 2)).off + 1,none⟩ = some (.int .i64 ((rd_T23 l2 b1).f1)) ∧ w'.cell? (d6.add (b0).toNat) = some (.int .i64 (rd l0 b0)) ∧ w'.cell? (d6.add (b1).toNat) = some (.int .i64 (rd l0 b1))) ∧ (w'.heap[d4]? = some (.cells #[.int .i64 e8,.int .i64 e7] 51 (0,0))) ∧ (w'.heap[d5]? = some (.cells #[.slice (some d6) l0.length c0,.int .i64 a1] 94 (0,0))) ∧ (w'.heap[s_.1]? = some (.cells #[.int .i64 0,.int .i64 0] 23 (0,0))) ∧ (w'.heap[s_.2]? = some (.cells #[.int .i64 0,.int .i64 0] 23 (0,0))) ∧ (w.heap.size ≤ s_.1) ∧ (w.heap.size ≤ s_.1) ∧ (d4 ≠ s_.1) ∧ (s_.1 ≠ d4) ∧ (d5 ≠ s_.1) ∧ (s_.1 ≠ d5) ∧ (s_.2 ≠ s_.1) ∧ (s_.1 ≠ s_.2) ∧ (w.heap.size ≤ s_.2) ∧ (w.heap.size ≤ s_.2) ∧ (d4 ≠ s_.2) ∧ (s_.2 ≠ d4) ∧ (d5 ≠ s_.2) ∧ (s_.2 ≠ d5) ∧ (Below w.heap.size w w')) ?_ ?_
      rotate_left
      ·intro h9
       refine join_ (σ:=Nat) 3 (ba 25 4194303) (fun s_=>[(51,.agg #[.int .i64 h7,.int .i64 h8]),(60,.tuple #[.agg #[.int .i64 h3,.int .i64 h5],.agg #[.int .i64 h4,.int .i64 h6]]),(13,.pointer (some ⟨s_,0,none⟩)),(42,.tuple #[.agg #[.int .i64 h3,.int .i64 h5],.agg #[.int .i64 h4,.int .i64 h6]]),(61,.agg #[.int .i64 h3,.int .i64 h5]),(62,.agg #[.int .i64 h4,.int .i64 h6])]) (fun s_ w'=>(w'.cell? (b2.add ((b0).toNat * 2)) = some (.int .i64 ((rd_T23 l2 b0).f0)) ∧ w'.cell? ⟨(b2.add ((b0).toNat * 2)).block,(b2.add ((b0).toNat * 2)).off + 1,none⟩ = some (.int .i64 ((rd_T23 l2 b0).f1)) ∧ w'.cell? (b2.add ((b1).toNat * 2)) = some (.int .i64 ((rd_T23 l2 b1).f0)) ∧ w'.cell? ⟨(b2.add ((b1).toNat * 2)).block,(b2.add ((b1).toNat * 2)).off + 1,none⟩ = some (.int .i64 ((rd_T23 l2 b1).f1)) ∧ w'.cell? (d6.add (b0).toNat) = some (.int .i64 (rd l0 b0)) ∧ w'.cell? (d6.add (b1).toNat) = some (.int .i64 (rd l0 b1))) ∧ (w'.heap[d4]? = some (.cells #[.int .i64 e8,.int .i64 e7] 51 (0,0))) ∧ (w'.heap[d5]? = some (.cells #[.slice (some d6) l0.length c0,.int .i64 a1] 94 (0,0))) ∧ (w'.heap[s_]? = some (.cells #[.int .i64 0,.int .i64 0] 23 (0,0))) ∧ (w.heap.size ≤ s_) ∧ (w.heap.size ≤ s_) ∧ (d4 ≠ s_) ∧ (s_ ≠ d4) ∧ (d5 ≠ s_) ∧ (s_ ≠ d5) ∧ (Below w.heap.size w w')) ?_ ?_
       rotate_left
       ·intro m4
        refine join_ (σ:=Nat) 3 (ba 25 6291455) (fun s_=>[(51,.agg #[.int .i64 h7,.int .i64 h8]),(60,.tuple #[.agg #[.int .i64 h3,.int .i64 h5],.agg #[.int .i64 h4,.int .i64 h6]]),(14,.pointer (some ⟨s_,0,none⟩)),(42,.tuple #[.agg #[.int .i64 h3,.int .i64 h5],.agg #[.int .i64 h4,.int .i64 h6]]),(61,.agg #[.int .i64 h3,.int .i64 h5]),(62,.agg #[.int .i64 h4,.int .i64 h6])]) (fun s_ w'=>(w'.cell? (b2.add ((b0).toNat * 2)) = some (.int .i64 ((rd_T23 l2 b0).f0)) ∧ w'.cell? ⟨(b2.add ((b0).toNat * 2)).block,(b2.add ((b0).toNat * 2)).off + 1,none⟩ = some (.int .i64 ((rd_T23 l2 b0).f1)) ∧ w'.cell? (b2.add ((b1).toNat * 2)) = some (.int .i64 ((rd_T23 l2 b1).f0)) ∧ w'.cell? ⟨(b2.add ((b1).toNat * 2)).block,(b2.add ((b1).toNat * 2)).off + 1,none⟩ = some (.int .i64 ((rd_T23 l2 b1).f1)) ∧ w'.cell? (d6.add (b0).toNat) = some (.int .i64 (rd l0 b0)) ∧ w'.cell? (d6.add (b1).toNat) = some (.int .i64 (rd l0 b1))) ∧ (w'.heap[d4]? = some (.cells #[.int .i64 e8,.int .i64 e7] 51 (0,0))) ∧ (w'.heap[d5]? = some (.cells #[.slice (some d6) l0.length c0,.int .i64 a1] 94 (0,0))) ∧ (w'.heap[s_]? = some (.cells #[.int .i64 0,.int .i64 0] 23 (0,0))) ∧ (w.heap.size ≤ s_) ∧ (w.heap.size ≤ s_) ∧ (d4 ≠ s_) ∧ (s_ ≠ d4) ∧ (d5 ≠ s_) ∧ (s_ ≠ d5) ∧ (Below w.heap.size w w')) ?_ ?_
        rotate_left
        ·intro m5
         refine join_ (σ:=Nat × Nat) 6 (ba 25 6422527) (fun s_=>[(51,.agg #[.int .i64 h7,.int .i64 h8]),(13,.pointer (some ⟨s_.1,0,none⟩)),(14,.pointer (some ⟨s_.2,0,none⟩))]) (fun s_ w'=>(w'.cell? (b2.add ((b0).toNat * 2)) = some (.int .i64 ((rd_T23 l2 b0).f0)) ∧ w'.cell? ⟨(b2.add ((b0).toNat * 2)).block,(b2.add ((b0).toNat * 2)).off + 1,none⟩ = some (.int .i64 ((rd_T23 l2 b0).f1)) ∧ w'.cell? (b2.add ((b1).toNat * 2)) = some (.int .i64 ((rd_T23 l2 b1).f0)) ∧ w'.cell? ⟨(b2.add ((b1).toNat * 2)).block,(b2.add ((b1).toNat * 2)).off + 1,none⟩ = some (.int .i64 ((rd_T23 l2 b1).f1)) ∧ w'.cell? (d6.add (b0).toNat) = some (.int .i64 (rd l0 b0)) ∧ w'.cell? (d6.add (b1).toNat) = some (.int .i64 (rd l0 b1))) ∧ (w'.heap[d4]? = some (.cells #[.int .i64 e8,.int .i64 e7] 51 (0,0))) ∧ (w'.heap[d5]? = some (.cells #[.slice (some d6) l0.length c0,.int .i64 a1] 94 (0,0))) ∧ (w'.heap[s_.1]? = some (.cells #[.int .i64 0,.int .i64 0] 23 (0,0))) ∧ (w'.heap[s_.2]? = some (.cells #[.int .i64 0,.int .i64 0] 23 (0,0))) ∧ (w.heap.size ≤ s_.1) ∧ (w.heap.size ≤ s_.1) ∧ (d4 ≠ s_.1) ∧ (s_.1 ≠ d4) ∧ (d5 ≠ s_.1) ∧ (s_.1 ≠ d5) ∧ (s_.2 ≠ s_.1) ∧ (s_.1 ≠ s_.2) ∧ (w.heap.size ≤ s_.2) ∧ (w.heap.size ≤ s_.2) ∧ (d4 ≠ s_.2) ∧ (s_.2 ≠ d4) ∧ (d5 ≠ s_.2) ∧ (s_.2 ≠ d5) ∧ (Below w.heap.size w w')) ?_ ?_
         rotate_left
         ·intro j8
          refine join_ (σ:=Unit) 4 (ba 25 2097151) (fun s_=>[(51,.agg #[.int .i64 h7,.int .i64 h8]),(60,.tuple #[.agg #[.int .i64 h3,.int .i64 h5],.agg #[.int .i64 h4,.int .i64 h6]]),(42,.tuple #[.agg #[.int .i64 h3,.int .i64 h5],.agg #[.int .i64 h4,.int .i64 h6]]),(61,.agg #[.int .i64 h3,.int .i64 h5]),(62,.agg #[.int .i64 h4,.int .i64 h6])]) (fun s_ w'=>(w'.cell? (b2.add ((b0).toNat * 2)) = some (.int .i64 ((rd_T23 l2 b0).f0)) ∧ w'.cell? ⟨(b2.add ((b0).toNat * 2)).block,(b2.add ((b0).toNat * 2)).off + 1,none⟩ = some (.int .i64 ((rd_T23 l2 b0).f1)) ∧ w'.cell? (b2.add ((b1).toNat * 2)) = some (.int .i64 ((rd_T23 l2 b1).f0)) ∧ w'.cell? ⟨(b2.add ((b1).toNat * 2)).block,(b2.add ((b1).toNat * 2)).off + 1,none⟩ = some (.int .i64 ((rd_T23 l2 b1).f1)) ∧ w'.cell? (d6.add (b0).toNat) = some (.int .i64 (rd l0 b0)) ∧ w'.cell? (d6.add (b1).toNat) = some (.int .i64 (rd l0 b1))) ∧ (w'.heap[d4]? = some (.cells #[.int .i64 e8,.int .i64 e7] 51 (0,0))) ∧ (w'.heap[d5]? = some (.cells #[.slice (some d6) l0.length c0,.int .i64 a1] 94 (0,0))) ∧ (Below w.heap.size w w')) ?_ ?_
          rotate_left
          ·intro r5
           refine join_ (σ:=Nat) 7 (ba 25 2228223) (fun s_=>[(51,.agg #[.int .i64 h7,.int .i64 h8]),(13,.pointer (some ⟨s_,0,none⟩))]) (fun s_ w'=>(w'.cell? (b2.add ((b0).toNat * 2)) = some (.int .i64 ((rd_T23 l2 b0).f0)) ∧ w'.cell? ⟨(b2.add ((b0).toNat * 2)).block,(b2.add ((b0).toNat * 2)).off + 1,none⟩ = some (.int .i64 ((rd_T23 l2 b0).f1)) ∧ w'.cell? (b2.add ((b1).toNat * 2)) = some (.int .i64 ((rd_T23 l2 b1).f0)) ∧ w'.cell? ⟨(b2.add ((b1).toNat * 2)).block,(b2.add ((b1).toNat * 2)).off + 1,none⟩ = some (.int .i64 ((rd_T23 l2 b1).f1)) ∧ w'.cell? (d6.add (b0).toNat) = some (.int .i64 (rd l0 b0)) ∧ w'.cell? (d6.add (b1).toNat) = some (.int .i64 (rd l0 b1))) ∧ (w'.heap[d4]? = some (.cells #[.int .i64 e8,.int .i64 e7] 51 (0,0))) ∧ (w'.heap[d5]? = some (.cells #[.slice (some d6) l0.length c0,.int .i64 a1] 94 (0,0))) ∧ (w'.heap[s_]? = some (.cells #[.int .i64 0,.int .i64 0] 23 (0,0))) ∧ (w.heap.size ≤ s_) ∧ (w.heap.size ≤ s_) ∧ (d4 ≠ s_) ∧ (s_ ≠ d4) ∧ (d5 ≠ s_) ∧ (s_ ≠ d5) ∧ (Below w.heap.size w w')) ?_ ?_
           rotate_left
           ·intro p5
            refine join_ (σ:=Nat) 7 (ba 25 4325375) (fun s_=>[(51,.agg #[.int .i64 h7,.int .i64 h8]),(14,.pointer (some ⟨s_,0,none⟩))]) (fun s_ w'=>(w'.cell? (b2.add ((b0).toNat * 2)) = some (.int .i64 ((rd_T23 l2 b0).f0)) ∧ w'.cell? ⟨(b2.add ((b0).toNat * 2)).block,(b2.add ((b0).toNat * 2)).off + 1,none⟩ = some (.int .i64 ((rd_T23 l2 b0).f1)) ∧ w'.cell? (b2.add ((b1).toNat * 2)) = some (.int .i64 ((rd_T23 l2 b1).f0)) ∧ w'.cell? ⟨(b2.add ((b1).toNat * 2)).block,(b2.add ((b1).toNat * 2)).off + 1,none⟩ = some (.int .i64 ((rd_T23 l2 b1).f1)) ∧ w'.cell? (d6.add (b0).toNat) = some (.int .i64 (rd l0 b0)) ∧ w'.cell? (d6.add (b1).toNat) = some (.int .i64 (rd l0 b1))) ∧ (w'.heap[d4]? = some (.cells #[.int .i64 e8,.int .i64 e7] 51 (0,0))) ∧ (w'.heap[d5]? = some (.cells #[.slice (some d6) l0.length c0,.int .i64 a1] 94 (0,0))) ∧ (w'.heap[s_]? = some (.cells #[.int .i64 0,.int .i64 0] 23 (0,0))) ∧ (w.heap.size ≤ s_) ∧ (w.heap.size ≤ s_) ∧ (d4 ≠ s_) ∧ (s_ ≠ d4) ∧ (d5 ≠ s_) ∧ (s_ ≠ d5) ∧ (Below w.heap.size w w')) ?_ ?_
            rotate_left
            ·intro p6
             refine join_ (σ:=Nat × Nat) 7 (ba 25 6422271) (fun s_=>[(13,.pointer (some ⟨s_.1,0,none⟩)),(14,.pointer (some ⟨s_.2,0,none⟩))]) (fun s_ w'=>(w'.cell? (b2.add ((b0).toNat * 2)) = some (.int .i64 ((rd_T23 l2 b0).f0)) ∧ w'.cell? ⟨(b2.add ((b0).toNat * 2)).block,(b2.add ((b0).toNat * 2)).off + 1,none⟩ = some (.int .i64 ((rd_T23 l2 b0).f1)) ∧ w'.cell? (b2.add ((b1).toNat * 2)) = some (.int .i64 ((rd_T23 l2 b1).f0)) ∧ w'.cell? ⟨(b2.add ((b1).toNat * 2)).block,(b2.add ((b1).toNat * 2)).off + 1,none⟩ = some (.int .i64 ((rd_T23 l2 b1).f1)) ∧ w'.cell? (d6.add (b0).toNat) = some (.int .i64 (rd l0 b0)) ∧ w'.cell? (d6.add (b1).toNat) = some (.int .i64 (rd l0 b1))) ∧ (w'.heap[d4]? = some (.cells #[.int .i64 e8,.int .i64 e7] 51 (0,0))) ∧ (w'.heap[d5]? = some (.cells #[.slice (some d6) l0.length c0,.int .i64 a1] 94 (0,0))) ∧ (w'.heap[s_.1]? = some (.cells #[.int .i64 0,.int .i64 0] 23 (0,0))) ∧ (w'.heap[s_.2]? = some (.cells #[.int .i64 0,.int .i64 0] 23 (0,0))) ∧ (w.heap.size ≤ s_.1) ∧ (w.heap.size ≤ s_.1) ∧ (d4 ≠ s_.1) ∧ (s_.1 ≠ d4) ∧ (d5 ≠ s_.1) ∧ (s_.1 ≠ d5) ∧ (s_.2 ≠ s_.1) ∧ (s_.1 ≠ s_.2) ∧ (w.heap.size ≤ s_.2) ∧ (w.heap.size ≤ s_.2) ∧ (d4 ≠ s_.2) ∧ (s_.2 ≠ d4) ∧ (d5 ≠ s_.2) ∧ (s_.2 ≠ d5) ∧ (Below w.heap.size w w')) ?_ ?_
             rotate_left
             ·intro o2
              refine join_ (σ:=Unit) 8 (ba 25 131071) (fun s_=>[(51,.agg #[.int .i64 h7,.int .i64 h8])]) (fun s_ w'=>(w'.cell? (b2.add ((b0).toNat * 2)) = some (.int .i64 ((rd_T23 l2 b0).f0)) ∧ w'.cell? ⟨(b2.add ((b0).toNat * 2)).block,(b2.add ((b0).toNat * 2)).off + 1,none⟩ = some (.int .i64 ((rd_T23 l2 b0).f1)) ∧ w'.cell? (b2.add ((b1).toNat * 2)) = some (.int .i64 ((rd_T23 l2 b1).f0)) ∧ w'.cell? ⟨(b2.add ((b1).toNat * 2)).block,(b2.add ((b1).toNat * 2)).off + 1,none⟩ = some (.int .i64 ((rd_T23 l2 b1).f1)) ∧ w'.cell? (d6.add (b0).toNat) = some (.int .i64 (rd l0 b0)) ∧ w'.cell? (d6.add (b1).toNat) = some (.int .i64 (rd l0 b1))) ∧ (w'.heap[d4]? = some (.cells #[.int .i64 e8,.int .i64 e7] 51 (0,0))) ∧ (w'.heap[d5]? = some (.cells #[.slice (some d6) l0.length c0,.int .i64 a1] 94 (0,0))) ∧ (Below w.heap.size w w')) ?_ ?_
              rotate_left
              ·intro z7
               refine join_ (σ:=Nat) 8 (ba 25 2227967) (fun s_=>[(13,.pointer (some ⟨s_,0,none⟩))]) (fun s_ w'=>(w'.cell? (b2.add ((b0).toNat * 2)) = some (.int .i64 ((rd_T23 l2 b0).f0)) ∧ w'.cell? ⟨(b2.add ((b0).toNat * 2)).block,(b2.add ((b0).toNat * 2)).off + 1,none⟩ = some (.int .i64 ((rd_T23 l2 b0).f1)) ∧ w'.cell? (b2.add ((b1).toNat * 2)) = some (.int .i64 ((rd_T23 l2 b1).f0)) ∧ w'.cell? ⟨(b2.add ((b1).toNat * 2)).block,(b2.add ((b1).toNat * 2)).off + 1,none⟩ = some (.int .i64 ((rd_T23 l2 b1).f1)) ∧ w'.cell? (d6.add (b0).toNat) = some (.int .i64 (rd l0 b0)) ∧ w'.cell? (d6.add (b1).toNat) = some (.int .i64 (rd l0 b1))) ∧ (w'.heap[d4]? = some (.cells #[.int .i64 e8,.int .i64 e7] 51 (0,0))) ∧ (w'.heap[d5]? = some (.cells #[.slice (some d6) l0.length c0,.int .i64 a1] 94 (0,0))) ∧ (w'.heap[s_]? = some (.cells #[.int .i64 0,.int .i64 0] 23 (0,0))) ∧ (w.heap.size ≤ s_) ∧ (w.heap.size ≤ s_) ∧ (d4 ≠ s_) ∧ (s_ ≠ d4) ∧ (d5 ≠ s_) ∧ (s_ ≠ d5) ∧ (Below w.heap.size w w')) ?_ ?_
               rotate_left
               ·intro t9
                refine join_ (σ:=Nat) 8 (ba 25 4325119) (fun s_=>[(14,.pointer (some ⟨s_,0,none⟩))]) (fun s_ w'=>(w'.cell? (b2.add ((b0).toNat * 2)) = some (.int .i64 ((rd_T23 l2 b0).f0)) ∧ w'.cell? ⟨(b2.add ((b0).toNat * 2)).block,(b2.add ((b0).toNat * 2)).off + 1,none⟩ = some (.int .i64 ((rd_T23 l2 b0).f1)) ∧ w'.cell? (b2.add ((b1).toNat * 2)) = some (.int .i64 ((rd_T23 l2 b1).f0)) ∧ w'.cell? ⟨(b2.add ((b1).toNat * 2)).block,(b2.add ((b1).toNat * 2)).off + 1,none⟩ = some (.int .i64 ((rd_T23 l2 b1).f1)) ∧ w'.cell? (d6.add (b0).toNat) = some (.int .i64 (rd l0 b0)) ∧ w'.cell? (d6.add (b1).toNat) = some (.int .i64 (rd l0 b1))) ∧ (w'.heap[d4]? = some (.cells #[.int .i64 e8,.int .i64 e7] 51 (0,0))) ∧ (w'.heap[d5]? = some (.cells #[.slice (some d6) l0.length c0,.int .i64 a1] 94 (0,0))) ∧ (w'.heap[s_]? = some (.cells #[.int .i64 0,.int .i64 0] 23 (0,0))) ∧ (w.heap.size ≤ s_) ∧ (w.heap.size ≤ s_) ∧ (d4 ≠ s_) ∧ (s_ ≠ d4) ∧ (d5 ≠ s_) ∧ (s_ ≠ d5) ∧ (Below w.heap.size w w')) ?_ ?_
                rotate_left
                ·intro x1
                 refine three_ (i:=8) (j:=21) (k:=22) (Ni:=some 51) (Nj:=some 13) (Nk:=some 14) (ba 25 131071) (ba 25 2227967) (ba 25 4325119) rfl rfl rfl rfl rfl rfl (three_of HT_.out (by kernel_rfl)) (by decide) (by decide) (by decide) (fun K hK=>?_) (fun K hK=>?_) (fun K hK=>?_)
                 ·skip
                  refine gq Try.func88 #[.agg #[.int .i64 ((rd_T23 l2 b0).f0),.int .i64 ((rd_T23 l2 b0).f1)],.agg #[.int .i64 ((rd_T23 l2 b1).f0),.int .i64 ((rd_T23 l2 b1).f1)]] ?_
                  with_reducible refine (shares_add.calls k2 ((rd_T23 l2 b0).f0) ((rd_T23 l2 b0).f1) ((rd_T23 l2 b1).f0) ((rd_T23 l2 b1).f1) h7 h8 _ t1.out).mono ?_
                  rintro e P0 ⟨rfl,hb⟩
                  refine ⟨_,rfl,?_⟩
                  replace b3:=kB b3 hb
                  replace b4:=kB b4 hb
                  replace HB:=bB HB hb
                  (try clear hb)
                  refine hK.out _ _ ⟨((HB.out.cell (World.block_lt_of_cell? w _ b8)).trans b8),((HB.out.cell (World.block_lt_of_cell? w _ b7)).trans b7),((HB.out.cell (World.block_lt_of_cell? w _ c1)).trans c1),((HB.out.cell (World.block_lt_of_cell? w _ b9)).trans b9),((HB.out.cell (World.block_lt_of_cell? w _ d0)).trans d0),((HB.out.cell (World.block_lt_of_cell? w _ d1)).trans d1)⟩ (fun hHeld=>?_)
                  clear hK K
                  refine nq 51 ?_
                  exact norm_ (by first | (simp only [putAll,Act.put,List.setIfInBounds_toArray,List.set_cons_zero,List.set_cons_succ];done) | (simp only [putAll,Act.put,List.setIfInBounds_toArray,List.set_cons_zero,List.set_cons_succ];rfl)) (z7 () _ ⟨hHeld,(kb b3),(kb b4),(bl HB)⟩)
                 ·skip
                  refine box_step ?hg (N:=13) ?hd (cs:=#[.int .i64 0,.int .i64 0]) (t:=23) ?hr ?_;(case hd=>rfl);(case hg=>rfl);(case hr=>first | (go_simp;done) | (go_simp;rfl))
                  intro b5 hg P0 hbox hb
                  have e5:=A_ hbox
                  have d2:=gw hg HB
                  have h1:=d2
                  have d7:=nl hg b3
                  have e1:=ng hg b3
                  have d9:=nl hg b4
                  have e3:=ng hg b4
                  replace b3:=kB b3 hb
                  replace b4:=kB b4 hb
                  replace HB:=bB HB hb
                  clear hb hbox hg
                  refine hK.out _ _ ⟨((HB.out.cell (World.block_lt_of_cell? w _ b8)).trans b8),((HB.out.cell (World.block_lt_of_cell? w _ b7)).trans b7),((HB.out.cell (World.block_lt_of_cell? w _ c1)).trans c1),((HB.out.cell (World.block_lt_of_cell? w _ b9)).trans b9),((HB.out.cell (World.block_lt_of_cell? w _ d0)).trans d0),((HB.out.cell (World.block_lt_of_cell? w _ d1)).trans d1)⟩ (fun hHeld=>?_)
                  clear hK K
                  refine nq 13 ?_
                  exact norm_ (by first | (simp only [putAll,Act.put,List.setIfInBounds_toArray,List.set_cons_zero,List.set_cons_succ];done) | (simp only [putAll,Act.put,List.setIfInBounds_toArray,List.set_cons_zero,List.set_cons_succ];rfl)) (t9 (b5) _ ⟨hHeld,(kb b3),(kb b4),(kb e5),d2.out,h1.out,d7.out,e1.out,d9.out,e3.out,(bl HB)⟩)
                 skip
                 refine box_step ?hg (N:=14) ?hd (cs:=#[.int .i64 0,.int .i64 0]) (t:=23) ?hr ?_;(case hd=>rfl);(case hg=>rfl);(case hr=>first | (go_simp;done) | (go_simp;rfl))
                 intro b6 hg P0 hbox hb
                 have e6:=A_ hbox
                 have d3:=gw hg HB
                 have h2:=d3
                 have d8:=nl hg b3
                 have e2:=ng hg b3
                 have e0:=nl hg b4
                 have e4:=ng hg b4
                 replace b3:=kB b3 hb
                 replace b4:=kB b4 hb
                 replace HB:=bB HB hb
                 clear hb hbox hg
                 refine hK.out _ _ ⟨((HB.out.cell (World.block_lt_of_cell? w _ b8)).trans b8),((HB.out.cell (World.block_lt_of_cell? w _ b7)).trans b7),((HB.out.cell (World.block_lt_of_cell? w _ c1)).trans c1),((HB.out.cell (World.block_lt_of_cell? w _ b9)).trans b9),((HB.out.cell (World.block_lt_of_cell? w _ d0)).trans d0),((HB.out.cell (World.block_lt_of_cell? w _ d1)).trans d1)⟩ (fun hHeld=>?_)
                 clear hK K
                 refine nq 14 ?_
                 exact norm_ (by first | (simp only [putAll,Act.put,List.setIfInBounds_toArray,List.set_cons_zero,List.set_cons_succ];done) | (simp only [putAll,Act.put,List.setIfInBounds_toArray,List.set_cons_zero,List.set_cons_succ];rfl)) (x1 (b6) _ ⟨hHeld,(kb b3),(kb b4),(kb e6),d3.out,h2.out,d8.out,e2.out,e0.out,e4.out,(bl HB)⟩)
                skip
                rintro b6 q1 ⟨hS_,i9,j5,j7,j9,l5,l6,l7,l8,l9,m0⟩
                have e6:Aside0 (q1.heap[b6]? = some (.cells #[.int .i64 0,.int .i64 0] 23 (0,0))):=⟨j7⟩
                have d3:Aside0 (w.heap.size ≤ b6):=⟨j9⟩
                have h2:Aside0 (w.heap.size ≤ b6):=⟨l5⟩
                have d8:Aside0 (d4 ≠ b6):=⟨l6⟩
                have e2:Aside0 (b6 ≠ d4):=⟨l7⟩
                have e0:Aside0 (d5 ≠ b6):=⟨l8⟩
                have e4:Aside0 (b6 ≠ d5):=⟨l9⟩
                replace b3:Aside0 (q1.heap[d4]? = some (.cells #[.int .i64 e8,.int .i64 e7] 51 (0,0))):=⟨i9⟩
                replace b4:Aside0 (q1.heap[d5]? = some (.cells #[.slice (some d6) l0.length c0,.int .i64 a1] 94 (0,0))):=⟨j5⟩
                replace HB:Aside0 (Below w.heap.size w q1):=⟨m0⟩
                clear i9 j5 j7 j9 l5 l6 l7 l8 l9 m0
                have hHeld:q1.cell? (b2.add ((b0).toNat * 2)) = some (.int .i64 ((rd_T23 l2 b0).f0)) ∧ q1.cell? ⟨(b2.add ((b0).toNat * 2)).block,(b2.add ((b0).toNat * 2)).off + 1,none⟩ = some (.int .i64 ((rd_T23 l2 b0).f1)) ∧ q1.cell? (b2.add ((b1).toNat * 2)) = some (.int .i64 ((rd_T23 l2 b1).f0)) ∧ q1.cell? ⟨(b2.add ((b1).toNat * 2)).block,(b2.add ((b1).toNat * 2)).off + 1,none⟩ = some (.int .i64 ((rd_T23 l2 b1).f1)) ∧ q1.cell? (d6.add (b0).toNat) = some (.int .i64 (rd l0 b0)) ∧ q1.cell? (d6.add (b1).toNat) = some (.int .i64 (rd l0 b1)):=hS_
                refine norm_ (a':=?_) ?_ ?_
                rotate_left
                ·simp only [putAll,Act.put,List.setIfInBounds_toArray,List.set_cons_zero,List.set_cons_succ]
                 rfl
                refine two_ (i:=8) (j:=21) (Ni:=some 51) (Nj:=some 13) (ba 25 4325375) (ba 25 6422271) rfl rfl rfl rfl (two_of HT_.out (by kernel_rfl)) (by decide) (by decide) (fun K hK=>?_) (fun K hK=>?_)
                ·skip
                 refine gq Try.func88 #[.agg #[.int .i64 ((rd_T23 l2 b0).f0),.int .i64 ((rd_T23 l2 b0).f1)],.agg #[.int .i64 ((rd_T23 l2 b1).f0),.int .i64 ((rd_T23 l2 b1).f1)]] ?_
                 with_reducible refine (shares_add.calls k2 ((rd_T23 l2 b0).f0) ((rd_T23 l2 b0).f1) ((rd_T23 l2 b1).f0) ((rd_T23 l2 b1).f1) h7 h8 _ t1.out).mono ?_
                 rintro e n8 ⟨rfl,hb⟩
                 refine ⟨_,rfl,?_⟩
                 replace b3:=kB b3 hb
                 replace b4:=kB b4 hb
                 replace e6:=kB e6 hb
                 replace HB:=bB HB hb
                 (try clear hb)
                 refine hK.out _ _ ⟨((HB.out.cell (World.block_lt_of_cell? w _ b8)).trans b8),((HB.out.cell (World.block_lt_of_cell? w _ b7)).trans b7),((HB.out.cell (World.block_lt_of_cell? w _ c1)).trans c1),((HB.out.cell (World.block_lt_of_cell? w _ b9)).trans b9),((HB.out.cell (World.block_lt_of_cell? w _ d0)).trans d0),((HB.out.cell (World.block_lt_of_cell? w _ d1)).trans d1)⟩ (fun hHeld=>?_)
                 clear hK K
                 refine nq 51 ?_
                 exact norm_ (by first | (simp only [putAll,Act.put,List.setIfInBounds_toArray,List.set_cons_zero,List.set_cons_succ];done) | (simp only [putAll,Act.put,List.setIfInBounds_toArray,List.set_cons_zero,List.set_cons_succ];rfl)) (p6 (b6) _ ⟨hHeld,(kb b3),(kb b4),(kb e6),d3.out,h2.out,d8.out,e2.out,e0.out,e4.out,(bl HB)⟩)
                skip
                refine box_step ?hg (N:=13) ?hd (cs:=#[.int .i64 0,.int .i64 0]) (t:=23) ?hr ?_;(case hd=>rfl);(case hg=>rfl);(case hr=>first | (go_simp;done) | (go_simp;rfl))
                intro b5 hg n8 hbox hb
                have e5:=A_ hbox
                have d2:=gw hg HB
                have h1:=d2
                have d7:=nl hg b3
                have e1:=ng hg b3
                have d9:=nl hg b4
                have e3:=ng hg b4
                have e9:=nl hg e6
                have h0:=ng hg e6
                replace b3:=kB b3 hb
                replace b4:=kB b4 hb
                replace e6:=kB e6 hb
                replace HB:=bB HB hb
                clear hb hbox hg
                refine hK.out _ _ ⟨((HB.out.cell (World.block_lt_of_cell? w _ b8)).trans b8),((HB.out.cell (World.block_lt_of_cell? w _ b7)).trans b7),((HB.out.cell (World.block_lt_of_cell? w _ c1)).trans c1),((HB.out.cell (World.block_lt_of_cell? w _ b9)).trans b9),((HB.out.cell (World.block_lt_of_cell? w _ d0)).trans d0),((HB.out.cell (World.block_lt_of_cell? w _ d1)).trans d1)⟩ (fun hHeld=>?_)
                clear hK K
                refine nq 13 ?_
                exact norm_ (by first | (simp only [putAll,Act.put,List.setIfInBounds_toArray,List.set_cons_zero,List.set_cons_succ];done) | (simp only [putAll,Act.put,List.setIfInBounds_toArray,List.set_cons_zero,List.set_cons_succ];rfl)) (o2 (b5,b6) _ ⟨hHeld,(kb b3),(kb b4),(kb e5),(kb e6),d2.out,h1.out,d7.out,e1.out,d9.out,e3.out,e9.out,h0.out,d3.out,h2.out,d8.out,e2.out,e0.out,e4.out,(bl HB)⟩)
               skip
               rintro b5 q1 ⟨hS_,i9,j5,j7,j9,l5,l6,l7,l8,l9,m0⟩
               have e5:Aside0 (q1.heap[b5]? = some (.cells #[.int .i64 0,.int .i64 0] 23 (0,0))):=⟨j7⟩
               have d2:Aside0 (w.heap.size ≤ b5):=⟨j9⟩
               have h1:Aside0 (w.heap.size ≤ b5):=⟨l5⟩
               have d7:Aside0 (d4 ≠ b5):=⟨l6⟩
               have e1:Aside0 (b5 ≠ d4):=⟨l7⟩
               have d9:Aside0 (d5 ≠ b5):=⟨l8⟩
               have e3:Aside0 (b5 ≠ d5):=⟨l9⟩
               replace b3:Aside0 (q1.heap[d4]? = some (.cells #[.int .i64 e8,.int .i64 e7] 51 (0,0))):=⟨i9⟩
               replace b4:Aside0 (q1.heap[d5]? = some (.cells #[.slice (some d6) l0.length c0,.int .i64 a1] 94 (0,0))):=⟨j5⟩
               replace HB:Aside0 (Below w.heap.size w q1):=⟨m0⟩
               clear i9 j5 j7 j9 l5 l6 l7 l8 l9 m0
               have hHeld:q1.cell? (b2.add ((b0).toNat * 2)) = some (.int .i64 ((rd_T23 l2 b0).f0)) ∧ q1.cell? ⟨(b2.add ((b0).toNat * 2)).block,(b2.add ((b0).toNat * 2)).off + 1,none⟩ = some (.int .i64 ((rd_T23 l2 b0).f1)) ∧ q1.cell? (b2.add ((b1).toNat * 2)) = some (.int .i64 ((rd_T23 l2 b1).f0)) ∧ q1.cell? ⟨(b2.add ((b1).toNat * 2)).block,(b2.add ((b1).toNat * 2)).off + 1,none⟩ = some (.int .i64 ((rd_T23 l2 b1).f1)) ∧ q1.cell? (d6.add (b0).toNat) = some (.int .i64 (rd l0 b0)) ∧ q1.cell? (d6.add (b1).toNat) = some (.int .i64 (rd l0 b1)):=hS_
               refine norm_ (a':=?_) ?_ ?_
               rotate_left
               ·simp only [putAll,Act.put,List.setIfInBounds_toArray,List.set_cons_zero,List.set_cons_succ]
                rfl
               refine two_ (i:=8) (j:=22) (Ni:=some 51) (Nj:=some 14) (ba 25 2228223) (ba 25 6422271) rfl rfl rfl rfl (two_of HT_.out (by kernel_rfl)) (by decide) (by decide) (fun K hK=>?_) (fun K hK=>?_)
               ·skip
                refine gq Try.func88 #[.agg #[.int .i64 ((rd_T23 l2 b0).f0),.int .i64 ((rd_T23 l2 b0).f1)],.agg #[.int .i64 ((rd_T23 l2 b1).f0),.int .i64 ((rd_T23 l2 b1).f1)]] ?_
                with_reducible refine (shares_add.calls k2 ((rd_T23 l2 b0).f0) ((rd_T23 l2 b0).f1) ((rd_T23 l2 b1).f0) ((rd_T23 l2 b1).f1) h7 h8 _ t1.out).mono ?_
                rintro e n8 ⟨rfl,hb⟩
                refine ⟨_,rfl,?_⟩
                replace b3:=kB b3 hb
                replace b4:=kB b4 hb
                replace e5:=kB e5 hb
                replace HB:=bB HB hb
                (try clear hb)
                refine hK.out _ _ ⟨((HB.out.cell (World.block_lt_of_cell? w _ b8)).trans b8),((HB.out.cell (World.block_lt_of_cell? w _ b7)).trans b7),((HB.out.cell (World.block_lt_of_cell? w _ c1)).trans c1),((HB.out.cell (World.block_lt_of_cell? w _ b9)).trans b9),((HB.out.cell (World.block_lt_of_cell? w _ d0)).trans d0),((HB.out.cell (World.block_lt_of_cell? w _ d1)).trans d1)⟩ (fun hHeld=>?_)
                clear hK K
                refine nq 51 ?_
                exact norm_ (by first | (simp only [putAll,Act.put,List.setIfInBounds_toArray,List.set_cons_zero,List.set_cons_succ];done) | (simp only [putAll,Act.put,List.setIfInBounds_toArray,List.set_cons_zero,List.set_cons_succ];rfl)) (p5 (b5) _ ⟨hHeld,(kb b3),(kb b4),(kb e5),d2.out,h1.out,d7.out,e1.out,d9.out,e3.out,(bl HB)⟩)
               skip
               refine box_step ?hg (N:=14) ?hd (cs:=#[.int .i64 0,.int .i64 0]) (t:=23) ?hr ?_;(case hd=>rfl);(case hg=>rfl);(case hr=>first | (go_simp;done) | (go_simp;rfl))
               intro b6 hg n8 hbox hb
               have e6:=A_ hbox
               have d3:=gw hg HB
               have h2:=d3
               have d8:=nl hg b3
               have e2:=ng hg b3
               have e0:=nl hg b4
               have e4:=ng hg b4
               have h0:=nl hg e5
               have e9:=ng hg e5
               replace b3:=kB b3 hb
               replace b4:=kB b4 hb
               replace e5:=kB e5 hb
               replace HB:=bB HB hb
               clear hb hbox hg
               refine hK.out _ _ ⟨((HB.out.cell (World.block_lt_of_cell? w _ b8)).trans b8),((HB.out.cell (World.block_lt_of_cell? w _ b7)).trans b7),((HB.out.cell (World.block_lt_of_cell? w _ c1)).trans c1),((HB.out.cell (World.block_lt_of_cell? w _ b9)).trans b9),((HB.out.cell (World.block_lt_of_cell? w _ d0)).trans d0),((HB.out.cell (World.block_lt_of_cell? w _ d1)).trans d1)⟩ (fun hHeld=>?_)
               clear hK K
               refine nq 14 ?_
               exact norm_ (by first | (simp only [putAll,Act.put,List.setIfInBounds_toArray,List.set_cons_zero,List.set_cons_succ];done) | (simp only [putAll,Act.put,List.setIfInBounds_toArray,List.set_cons_zero,List.set_cons_succ];rfl)) (o2 (b5,b6) _ ⟨hHeld,(kb b3),(kb b4),(kb e5),(kb e6),d2.out,h1.out,d7.out,e1.out,d9.out,e3.out,e9.out,h0.out,d3.out,h2.out,d8.out,e2.out,e0.out,e4.out,(bl HB)⟩)
              skip
              rintro _ q1 ⟨hS_,i9,j5,j7⟩
              replace b3:Aside0 (q1.heap[d4]? = some (.cells #[.int .i64 e8,.int .i64 e7] 51 (0,0))):=⟨i9⟩
              replace b4:Aside0 (q1.heap[d5]? = some (.cells #[.slice (some d6) l0.length c0,.int .i64 a1] 94 (0,0))):=⟨j5⟩
              replace HB:Aside0 (Below w.heap.size w q1):=⟨j7⟩
              clear i9 j5 j7
              have hHeld:q1.cell? (b2.add ((b0).toNat * 2)) = some (.int .i64 ((rd_T23 l2 b0).f0)) ∧ q1.cell? ⟨(b2.add ((b0).toNat * 2)).block,(b2.add ((b0).toNat * 2)).off + 1,none⟩ = some (.int .i64 ((rd_T23 l2 b0).f1)) ∧ q1.cell? (b2.add ((b1).toNat * 2)) = some (.int .i64 ((rd_T23 l2 b1).f0)) ∧ q1.cell? ⟨(b2.add ((b1).toNat * 2)).block,(b2.add ((b1).toNat * 2)).off + 1,none⟩ = some (.int .i64 ((rd_T23 l2 b1).f1)) ∧ q1.cell? (d6.add (b0).toNat) = some (.int .i64 (rd l0 b0)) ∧ q1.cell? (d6.add (b1).toNat) = some (.int .i64 (rd l0 b1)):=hS_
              refine norm_ (a':=?_) ?_ ?_
              rotate_left
              ·simp only [putAll,Act.put,List.setIfInBounds_toArray,List.set_cons_zero,List.set_cons_succ]
               rfl
              refine three_ (i:=17) (j:=21) (k:=22) (Ni:=some 60) (Nj:=some 13) (Nk:=some 14) (ba 25 262143) (ba 25 2228223) (ba 25 4325375) rfl rfl rfl rfl rfl rfl (three_of HT_.out (by kernel_rfl)) (by decide) (by decide) (by decide) (fun K hK=>?_) (fun K hK=>?_) (fun K hK=>?_)
              ·skip
               refine gq Try.func63 #[.agg #[.int .i64 h7,.int .i64 h8],.int .i64 (rd l0 b0),.int .i64 (rd l0 b1)] ?_
               with_reducible refine (shares_garment.calls k2 h7 h8 (rd l0 b0) (rd l0 b1) h3 h5 h4 h6 _ t2.out).mono ?_
               rintro e n8 ⟨rfl,hb⟩
               refine ⟨_,rfl,?_⟩
               replace b3:=kB b3 hb
               replace b4:=kB b4 hb
               replace HB:=bB HB hb
               (try clear hb)
               refine hK.out _ _ ⟨((HB.out.cell (World.block_lt_of_cell? w _ b8)).trans b8),((HB.out.cell (World.block_lt_of_cell? w _ b7)).trans b7),((HB.out.cell (World.block_lt_of_cell? w _ c1)).trans c1),((HB.out.cell (World.block_lt_of_cell? w _ b9)).trans b9),((HB.out.cell (World.block_lt_of_cell? w _ d0)).trans d0),((HB.out.cell (World.block_lt_of_cell? w _ d1)).trans d1)⟩ (fun hHeld=>?_)
               clear hK K
               refine nq 60 ?_
               refine pq 18 42 524287 HT_ ?_
               refine pq 19 61 1048575 HT_ ?_
               refine pq 20 62 2097151 HT_ ?_
               exact norm_ (by first | (simp only [putAll,Act.put,List.setIfInBounds_toArray,List.set_cons_zero,List.set_cons_succ];done) | (simp only [putAll,Act.put,List.setIfInBounds_toArray,List.set_cons_zero,List.set_cons_succ];rfl)) (r5 () _ ⟨hHeld,(kb b3),(kb b4),(bl HB)⟩)
              ·skip
               refine box_step ?hg (N:=13) ?hd (cs:=#[.int .i64 0,.int .i64 0]) (t:=23) ?hr ?_;(case hd=>rfl);(case hg=>rfl);(case hr=>first | (go_simp;done) | (go_simp;rfl))
               intro b5 hg n8 hbox hb
               have e5:=A_ hbox
               have d2:=gw hg HB
               have h1:=d2
               have d7:=nl hg b3
               have e1:=ng hg b3
               have d9:=nl hg b4
               have e3:=ng hg b4
               replace b3:=kB b3 hb
               replace b4:=kB b4 hb
               replace HB:=bB HB hb
               clear hb hbox hg
               refine hK.out _ _ ⟨((HB.out.cell (World.block_lt_of_cell? w _ b8)).trans b8),((HB.out.cell (World.block_lt_of_cell? w _ b7)).trans b7),((HB.out.cell (World.block_lt_of_cell? w _ c1)).trans c1),((HB.out.cell (World.block_lt_of_cell? w _ b9)).trans b9),((HB.out.cell (World.block_lt_of_cell? w _ d0)).trans d0),((HB.out.cell (World.block_lt_of_cell? w _ d1)).trans d1)⟩ (fun hHeld=>?_)
               clear hK K
               refine nq 13 ?_
               exact norm_ (by first | (simp only [putAll,Act.put,List.setIfInBounds_toArray,List.set_cons_zero,List.set_cons_succ];done) | (simp only [putAll,Act.put,List.setIfInBounds_toArray,List.set_cons_zero,List.set_cons_succ];rfl)) (p5 (b5) _ ⟨hHeld,(kb b3),(kb b4),(kb e5),d2.out,h1.out,d7.out,e1.out,d9.out,e3.out,(bl HB)⟩)
              skip
              refine box_step ?hg (N:=14) ?hd (cs:=#[.int .i64 0,.int .i64 0]) (t:=23) ?hr ?_;(case hd=>rfl);(case hg=>rfl);(case hr=>first | (go_simp;done) | (go_simp;rfl))
              intro b6 hg n8 hbox hb
              have e6:=A_ hbox
              have d3:=gw hg HB
              have h2:=d3
              have d8:=nl hg b3
              have e2:=ng hg b3
              have e0:=nl hg b4
              have e4:=ng hg b4
              replace b3:=kB b3 hb
              replace b4:=kB b4 hb
              replace HB:=bB HB hb
              clear hb hbox hg
              refine hK.out _ _ ⟨((HB.out.cell (World.block_lt_of_cell? w _ b8)).trans b8),((HB.out.cell (World.block_lt_of_cell? w _ b7)).trans b7),((HB.out.cell (World.block_lt_of_cell? w _ c1)).trans c1),((HB.out.cell (World.block_lt_of_cell? w _ b9)).trans b9),((HB.out.cell (World.block_lt_of_cell? w _ d0)).trans d0),((HB.out.cell (World.block_lt_of_cell? w _ d1)).trans d1)⟩ (fun hHeld=>?_)
              clear hK K
              refine nq 14 ?_
              exact norm_ (by first | (simp only [putAll,Act.put,List.setIfInBounds_toArray,List.set_cons_zero,List.set_cons_succ];done) | (simp only [putAll,Act.put,List.setIfInBounds_toArray,List.set_cons_zero,List.set_cons_succ];rfl)) (p6 (b6) _ ⟨hHeld,(kb b3),(kb b4),(kb e6),d3.out,h2.out,d8.out,e2.out,e0.out,e4.out,(bl HB)⟩)
             skip
             rintro ⟨b5,b6⟩ n8 ⟨hS_,i9,j5,j7,j9,l5,l6,l7,l8,l9,m0,m7,m8,m9,n0,n1,n2,n3,n4,n5⟩
             have e5:Aside0 (n8.heap[b5]? = some (.cells #[.int .i64 0,.int .i64 0] 23 (0,0))):=⟨j7⟩
             have e6:Aside0 (n8.heap[b6]? = some (.cells #[.int .i64 0,.int .i64 0] 23 (0,0))):=⟨j9⟩
             have d2:Aside0 (w.heap.size ≤ b5):=⟨l5⟩
             have h1:Aside0 (w.heap.size ≤ b5):=⟨l6⟩
             have d7:Aside0 (d4 ≠ b5):=⟨l7⟩
             have e1:Aside0 (b5 ≠ d4):=⟨l8⟩
             have d9:Aside0 (d5 ≠ b5):=⟨l9⟩
             have e3:Aside0 (b5 ≠ d5):=⟨m0⟩
             have e9:Aside0 (b6 ≠ b5):=⟨m7⟩
             have h0:Aside0 (b5 ≠ b6):=⟨m8⟩
             have d3:Aside0 (w.heap.size ≤ b6):=⟨m9⟩
             have h2:Aside0 (w.heap.size ≤ b6):=⟨n0⟩
             have d8:Aside0 (d4 ≠ b6):=⟨n1⟩
             have e2:Aside0 (b6 ≠ d4):=⟨n2⟩
             have e0:Aside0 (d5 ≠ b6):=⟨n3⟩
             have e4:Aside0 (b6 ≠ d5):=⟨n4⟩
             replace b3:Aside0 (n8.heap[d4]? = some (.cells #[.int .i64 e8,.int .i64 e7] 51 (0,0))):=⟨i9⟩
             replace b4:Aside0 (n8.heap[d5]? = some (.cells #[.slice (some d6) l0.length c0,.int .i64 a1] 94 (0,0))):=⟨j5⟩
             replace HB:Aside0 (Below w.heap.size w n8):=⟨n5⟩
             clear i9 j5 j7 j9 l5 l6 l7 l8 l9 m0 m7 m8 m9 n0 n1 n2 n3 n4 n5
             have hHeld:n8.cell? (b2.add ((b0).toNat * 2)) = some (.int .i64 ((rd_T23 l2 b0).f0)) ∧ n8.cell? ⟨(b2.add ((b0).toNat * 2)).block,(b2.add ((b0).toNat * 2)).off + 1,none⟩ = some (.int .i64 ((rd_T23 l2 b0).f1)) ∧ n8.cell? (b2.add ((b1).toNat * 2)) = some (.int .i64 ((rd_T23 l2 b1).f0)) ∧ n8.cell? ⟨(b2.add ((b1).toNat * 2)).block,(b2.add ((b1).toNat * 2)).off + 1,none⟩ = some (.int .i64 ((rd_T23 l2 b1).f1)) ∧ n8.cell? (d6.add (b0).toNat) = some (.int .i64 (rd l0 b0)) ∧ n8.cell? (d6.add (b1).toNat) = some (.int .i64 (rd l0 b1)):=hS_
             refine norm_ (a':=?_) ?_ ?_
             rotate_left
             ·simp only [putAll,Act.put,List.setIfInBounds_toArray,List.set_cons_zero,List.set_cons_succ]
              rfl
             refine oq 8 51 6422527 HT_ (fun K hK=>?_)
             refine gq Try.func88 #[.agg #[.int .i64 ((rd_T23 l2 b0).f0),.int .i64 ((rd_T23 l2 b0).f1)],.agg #[.int .i64 ((rd_T23 l2 b1).f0),.int .i64 ((rd_T23 l2 b1).f1)]] ?_
             with_reducible refine (shares_add.calls k2 ((rd_T23 l2 b0).f0) ((rd_T23 l2 b0).f1) ((rd_T23 l2 b1).f0) ((rd_T23 l2 b1).f1) h7 h8 _ t1.out).mono ?_
             rintro e o3 ⟨rfl,hb⟩
             refine ⟨_,rfl,?_⟩
             replace b3:=kB b3 hb
             replace b4:=kB b4 hb
             replace e5:=kB e5 hb
             replace e6:=kB e6 hb
             replace HB:=bB HB hb
             (try clear hb)
             refine hK.out _ _ ⟨((HB.out.cell (World.block_lt_of_cell? w _ b8)).trans b8),((HB.out.cell (World.block_lt_of_cell? w _ b7)).trans b7),((HB.out.cell (World.block_lt_of_cell? w _ c1)).trans c1),((HB.out.cell (World.block_lt_of_cell? w _ b9)).trans b9),((HB.out.cell (World.block_lt_of_cell? w _ d0)).trans d0),((HB.out.cell (World.block_lt_of_cell? w _ d1)).trans d1)⟩ (fun hHeld=>?_)
             clear hK K
             refine nq 51 ?_
             exact norm_ (by first | (simp only [putAll,Act.put,List.setIfInBounds_toArray,List.set_cons_zero,List.set_cons_succ];done) | (simp only [putAll,Act.put,List.setIfInBounds_toArray,List.set_cons_zero,List.set_cons_succ];rfl)) (j8 (b5,b6) _ ⟨hHeld,(kb b3),(kb b4),(kb e5),(kb e6),d2.out,h1.out,d7.out,e1.out,d9.out,e3.out,e9.out,h0.out,d3.out,h2.out,d8.out,e2.out,e0.out,e4.out,(bl HB)⟩)
            skip
            rintro b6 n8 ⟨hS_,i9,j5,j7,j9,l5,l6,l7,l8,l9,m0⟩
            have e6:Aside0 (n8.heap[b6]? = some (.cells #[.int .i64 0,.int .i64 0] 23 (0,0))):=⟨j7⟩
            have d3:Aside0 (w.heap.size ≤ b6):=⟨j9⟩
            have h2:Aside0 (w.heap.size ≤ b6):=⟨l5⟩
            have d8:Aside0 (d4 ≠ b6):=⟨l6⟩
            have e2:Aside0 (b6 ≠ d4):=⟨l7⟩
            have e0:Aside0 (d5 ≠ b6):=⟨l8⟩
            have e4:Aside0 (b6 ≠ d5):=⟨l9⟩
            replace b3:Aside0 (n8.heap[d4]? = some (.cells #[.int .i64 e8,.int .i64 e7] 51 (0,0))):=⟨i9⟩
            replace b4:Aside0 (n8.heap[d5]? = some (.cells #[.slice (some d6) l0.length c0,.int .i64 a1] 94 (0,0))):=⟨j5⟩
            replace HB:Aside0 (Below w.heap.size w n8):=⟨m0⟩
            clear i9 j5 j7 j9 l5 l6 l7 l8 l9 m0
            have hHeld:n8.cell? (b2.add ((b0).toNat * 2)) = some (.int .i64 ((rd_T23 l2 b0).f0)) ∧ n8.cell? ⟨(b2.add ((b0).toNat * 2)).block,(b2.add ((b0).toNat * 2)).off + 1,none⟩ = some (.int .i64 ((rd_T23 l2 b0).f1)) ∧ n8.cell? (b2.add ((b1).toNat * 2)) = some (.int .i64 ((rd_T23 l2 b1).f0)) ∧ n8.cell? ⟨(b2.add ((b1).toNat * 2)).block,(b2.add ((b1).toNat * 2)).off + 1,none⟩ = some (.int .i64 ((rd_T23 l2 b1).f1)) ∧ n8.cell? (d6.add (b0).toNat) = some (.int .i64 (rd l0 b0)) ∧ n8.cell? (d6.add (b1).toNat) = some (.int .i64 (rd l0 b1)):=hS_
            refine norm_ (a':=?_) ?_ ?_
            rotate_left
            ·simp only [putAll,Act.put,List.setIfInBounds_toArray,List.set_cons_zero,List.set_cons_succ]
             rfl
            refine two_ (i:=17) (j:=21) (Ni:=some 60) (Nj:=some 13) (ba 25 4456447) (ba 25 6422527) rfl rfl rfl rfl (two_of HT_.out (by kernel_rfl)) (by decide) (by decide) (fun K hK=>?_) (fun K hK=>?_)
            ·skip
             refine gq Try.func63 #[.agg #[.int .i64 h7,.int .i64 h8],.int .i64 (rd l0 b0),.int .i64 (rd l0 b1)] ?_
             with_reducible refine (shares_garment.calls k2 h7 h8 (rd l0 b0) (rd l0 b1) h3 h5 h4 h6 _ t2.out).mono ?_
             rintro e o3 ⟨rfl,hb⟩
             refine ⟨_,rfl,?_⟩
             replace b3:=kB b3 hb
             replace b4:=kB b4 hb
             replace e6:=kB e6 hb
             replace HB:=bB HB hb
             (try clear hb)
             refine hK.out _ _ ⟨((HB.out.cell (World.block_lt_of_cell? w _ b8)).trans b8),((HB.out.cell (World.block_lt_of_cell? w _ b7)).trans b7),((HB.out.cell (World.block_lt_of_cell? w _ c1)).trans c1),((HB.out.cell (World.block_lt_of_cell? w _ b9)).trans b9),((HB.out.cell (World.block_lt_of_cell? w _ d0)).trans d0),((HB.out.cell (World.block_lt_of_cell? w _ d1)).trans d1)⟩ (fun hHeld=>?_)
             clear hK K
             refine nq 60 ?_
             refine pq 18 42 4718591 HT_ ?_
             refine pq 19 61 5242879 HT_ ?_
             refine pq 20 62 6291455 HT_ ?_
             exact norm_ (by first | (simp only [putAll,Act.put,List.setIfInBounds_toArray,List.set_cons_zero,List.set_cons_succ];done) | (simp only [putAll,Act.put,List.setIfInBounds_toArray,List.set_cons_zero,List.set_cons_succ];rfl)) (m5 (b6) _ ⟨hHeld,(kb b3),(kb b4),(kb e6),d3.out,h2.out,d8.out,e2.out,e0.out,e4.out,(bl HB)⟩)
            skip
            refine box_step ?hg (N:=13) ?hd (cs:=#[.int .i64 0,.int .i64 0]) (t:=23) ?hr ?_;(case hd=>rfl);(case hg=>rfl);(case hr=>first | (go_simp;done) | (go_simp;rfl))
            intro b5 hg o3 hbox hb
            have e5:=A_ hbox
            have d2:=gw hg HB
            have h1:=d2
            have d7:=nl hg b3
            have e1:=ng hg b3
            have d9:=nl hg b4
            have e3:=ng hg b4
            have e9:=nl hg e6
            have h0:=ng hg e6
            replace b3:=kB b3 hb
            replace b4:=kB b4 hb
            replace e6:=kB e6 hb
            replace HB:=bB HB hb
            clear hb hbox hg
            refine hK.out _ _ ⟨((HB.out.cell (World.block_lt_of_cell? w _ b8)).trans b8),((HB.out.cell (World.block_lt_of_cell? w _ b7)).trans b7),((HB.out.cell (World.block_lt_of_cell? w _ c1)).trans c1),((HB.out.cell (World.block_lt_of_cell? w _ b9)).trans b9),((HB.out.cell (World.block_lt_of_cell? w _ d0)).trans d0),((HB.out.cell (World.block_lt_of_cell? w _ d1)).trans d1)⟩ (fun hHeld=>?_)
            clear hK K
            refine nq 13 ?_
            exact norm_ (by first | (simp only [putAll,Act.put,List.setIfInBounds_toArray,List.set_cons_zero,List.set_cons_succ];done) | (simp only [putAll,Act.put,List.setIfInBounds_toArray,List.set_cons_zero,List.set_cons_succ];rfl)) (j8 (b5,b6) _ ⟨hHeld,(kb b3),(kb b4),(kb e5),(kb e6),d2.out,h1.out,d7.out,e1.out,d9.out,e3.out,e9.out,h0.out,d3.out,h2.out,d8.out,e2.out,e0.out,e4.out,(bl HB)⟩)
           skip
           rintro b5 n8 ⟨hS_,i9,j5,j7,j9,l5,l6,l7,l8,l9,m0⟩
           have e5:Aside0 (n8.heap[b5]? = some (.cells #[.int .i64 0,.int .i64 0] 23 (0,0))):=⟨j7⟩
           have d2:Aside0 (w.heap.size ≤ b5):=⟨j9⟩
           have h1:Aside0 (w.heap.size ≤ b5):=⟨l5⟩
           have d7:Aside0 (d4 ≠ b5):=⟨l6⟩
           have e1:Aside0 (b5 ≠ d4):=⟨l7⟩
           have d9:Aside0 (d5 ≠ b5):=⟨l8⟩
           have e3:Aside0 (b5 ≠ d5):=⟨l9⟩
           replace b3:Aside0 (n8.heap[d4]? = some (.cells #[.int .i64 e8,.int .i64 e7] 51 (0,0))):=⟨i9⟩
           replace b4:Aside0 (n8.heap[d5]? = some (.cells #[.slice (some d6) l0.length c0,.int .i64 a1] 94 (0,0))):=⟨j5⟩
           replace HB:Aside0 (Below w.heap.size w n8):=⟨m0⟩
           clear i9 j5 j7 j9 l5 l6 l7 l8 l9 m0
           have hHeld:n8.cell? (b2.add ((b0).toNat * 2)) = some (.int .i64 ((rd_T23 l2 b0).f0)) ∧ n8.cell? ⟨(b2.add ((b0).toNat * 2)).block,(b2.add ((b0).toNat * 2)).off + 1,none⟩ = some (.int .i64 ((rd_T23 l2 b0).f1)) ∧ n8.cell? (b2.add ((b1).toNat * 2)) = some (.int .i64 ((rd_T23 l2 b1).f0)) ∧ n8.cell? ⟨(b2.add ((b1).toNat * 2)).block,(b2.add ((b1).toNat * 2)).off + 1,none⟩ = some (.int .i64 ((rd_T23 l2 b1).f1)) ∧ n8.cell? (d6.add (b0).toNat) = some (.int .i64 (rd l0 b0)) ∧ n8.cell? (d6.add (b1).toNat) = some (.int .i64 (rd l0 b1)):=hS_
           refine norm_ (a':=?_) ?_ ?_
           rotate_left
           ·simp only [putAll,Act.put,List.setIfInBounds_toArray,List.set_cons_zero,List.set_cons_succ]
            rfl
           refine two_ (i:=17) (j:=22) (Ni:=some 60) (Nj:=some 14) (ba 25 2359295) (ba 25 6422527) rfl rfl rfl rfl (two_of HT_.out (by kernel_rfl)) (by decide) (by decide) (fun K hK=>?_) (fun K hK=>?_)
           ·skip
            refine gq Try.func63 #[.agg #[.int .i64 h7,.int .i64 h8],.int .i64 (rd l0 b0),.int .i64 (rd l0 b1)] ?_
            with_reducible refine (shares_garment.calls k2 h7 h8 (rd l0 b0) (rd l0 b1) h3 h5 h4 h6 _ t2.out).mono ?_
            rintro e o3 ⟨rfl,hb⟩
            refine ⟨_,rfl,?_⟩
            replace b3:=kB b3 hb
            replace b4:=kB b4 hb
            replace e5:=kB e5 hb
            replace HB:=bB HB hb
            (try clear hb)
            refine hK.out _ _ ⟨((HB.out.cell (World.block_lt_of_cell? w _ b8)).trans b8),((HB.out.cell (World.block_lt_of_cell? w _ b7)).trans b7),((HB.out.cell (World.block_lt_of_cell? w _ c1)).trans c1),((HB.out.cell (World.block_lt_of_cell? w _ b9)).trans b9),((HB.out.cell (World.block_lt_of_cell? w _ d0)).trans d0),((HB.out.cell (World.block_lt_of_cell? w _ d1)).trans d1)⟩ (fun hHeld=>?_)
            clear hK K
            refine nq 60 ?_
            refine pq 18 42 2621439 HT_ ?_
            refine pq 19 61 3145727 HT_ ?_
            refine pq 20 62 4194303 HT_ ?_
            exact norm_ (by first | (simp only [putAll,Act.put,List.setIfInBounds_toArray,List.set_cons_zero,List.set_cons_succ];done) | (simp only [putAll,Act.put,List.setIfInBounds_toArray,List.set_cons_zero,List.set_cons_succ];rfl)) (m4 (b5) _ ⟨hHeld,(kb b3),(kb b4),(kb e5),d2.out,h1.out,d7.out,e1.out,d9.out,e3.out,(bl HB)⟩)
           skip
           refine box_step ?hg (N:=14) ?hd (cs:=#[.int .i64 0,.int .i64 0]) (t:=23) ?hr ?_;(case hd=>rfl);(case hg=>rfl);(case hr=>first | (go_simp;done) | (go_simp;rfl))
           intro b6 hg o3 hbox hb
           have e6:=A_ hbox
           have d3:=gw hg HB
           have h2:=d3
           have d8:=nl hg b3
           have e2:=ng hg b3
           have e0:=nl hg b4
           have e4:=ng hg b4
           have h0:=nl hg e5
           have e9:=ng hg e5
           replace b3:=kB b3 hb
           replace b4:=kB b4 hb
           replace e5:=kB e5 hb
           replace HB:=bB HB hb
           clear hb hbox hg
           refine hK.out _ _ ⟨((HB.out.cell (World.block_lt_of_cell? w _ b8)).trans b8),((HB.out.cell (World.block_lt_of_cell? w _ b7)).trans b7),((HB.out.cell (World.block_lt_of_cell? w _ c1)).trans c1),((HB.out.cell (World.block_lt_of_cell? w _ b9)).trans b9),((HB.out.cell (World.block_lt_of_cell? w _ d0)).trans d0),((HB.out.cell (World.block_lt_of_cell? w _ d1)).trans d1)⟩ (fun hHeld=>?_)
           clear hK K
           refine nq 14 ?_
           exact norm_ (by first | (simp only [putAll,Act.put,List.setIfInBounds_toArray,List.set_cons_zero,List.set_cons_succ];done) | (simp only [putAll,Act.put,List.setIfInBounds_toArray,List.set_cons_zero,List.set_cons_succ];rfl)) (j8 (b5,b6) _ ⟨hHeld,(kb b3),(kb b4),(kb e5),(kb e6),d2.out,h1.out,d7.out,e1.out,d9.out,e3.out,e9.out,h0.out,d3.out,h2.out,d8.out,e2.out,e0.out,e4.out,(bl HB)⟩)
          skip
          rintro _ n8 ⟨hS_,i9,j5,j7⟩
          replace b3:Aside0 (n8.heap[d4]? = some (.cells #[.int .i64 e8,.int .i64 e7] 51 (0,0))):=⟨i9⟩
          replace b4:Aside0 (n8.heap[d5]? = some (.cells #[.slice (some d6) l0.length c0,.int .i64 a1] 94 (0,0))):=⟨j5⟩
          replace HB:Aside0 (Below w.heap.size w n8):=⟨j7⟩
          clear i9 j5 j7
          have hHeld:n8.cell? (b2.add ((b0).toNat * 2)) = some (.int .i64 ((rd_T23 l2 b0).f0)) ∧ n8.cell? ⟨(b2.add ((b0).toNat * 2)).block,(b2.add ((b0).toNat * 2)).off + 1,none⟩ = some (.int .i64 ((rd_T23 l2 b0).f1)) ∧ n8.cell? (b2.add ((b1).toNat * 2)) = some (.int .i64 ((rd_T23 l2 b1).f0)) ∧ n8.cell? ⟨(b2.add ((b1).toNat * 2)).block,(b2.add ((b1).toNat * 2)).off + 1,none⟩ = some (.int .i64 ((rd_T23 l2 b1).f1)) ∧ n8.cell? (d6.add (b0).toNat) = some (.int .i64 (rd l0 b0)) ∧ n8.cell? (d6.add (b1).toNat) = some (.int .i64 (rd l0 b1)):=hS_
          refine norm_ (a':=?_) ?_ ?_
          rotate_left
          ·simp only [putAll,Act.put,List.setIfInBounds_toArray,List.set_cons_zero,List.set_cons_succ]
           rfl
          refine two_ (i:=21) (j:=22) (Ni:=some 13) (Nj:=some 14) (ba 25 4194303) (ba 25 6291455) rfl rfl rfl rfl (two_of HT_.out (by kernel_rfl)) (by decide) (by decide) (fun K hK=>?_) (fun K hK=>?_)
          ·skip
           refine box_step ?hg (N:=13) ?hd (cs:=#[.int .i64 0,.int .i64 0]) (t:=23) ?hr ?_;(case hd=>rfl);(case hg=>rfl);(case hr=>first | (go_simp;done) | (go_simp;rfl))
           intro b5 hg o3 hbox hb
           have e5:=A_ hbox
           have d2:=gw hg HB
           have h1:=d2
           have d7:=nl hg b3
           have e1:=ng hg b3
           have d9:=nl hg b4
           have e3:=ng hg b4
           replace b3:=kB b3 hb
           replace b4:=kB b4 hb
           replace HB:=bB HB hb
           clear hb hbox hg
           refine hK.out _ _ ⟨((HB.out.cell (World.block_lt_of_cell? w _ b8)).trans b8),((HB.out.cell (World.block_lt_of_cell? w _ b7)).trans b7),((HB.out.cell (World.block_lt_of_cell? w _ c1)).trans c1),((HB.out.cell (World.block_lt_of_cell? w _ b9)).trans b9),((HB.out.cell (World.block_lt_of_cell? w _ d0)).trans d0),((HB.out.cell (World.block_lt_of_cell? w _ d1)).trans d1)⟩ (fun hHeld=>?_)
           clear hK K
           refine nq 13 ?_
           exact norm_ (by first | (simp only [putAll,Act.put,List.setIfInBounds_toArray,List.set_cons_zero,List.set_cons_succ];done) | (simp only [putAll,Act.put,List.setIfInBounds_toArray,List.set_cons_zero,List.set_cons_succ];rfl)) (m4 (b5) _ ⟨hHeld,(kb b3),(kb b4),(kb e5),d2.out,h1.out,d7.out,e1.out,d9.out,e3.out,(bl HB)⟩)
          skip
          refine box_step ?hg (N:=14) ?hd (cs:=#[.int .i64 0,.int .i64 0]) (t:=23) ?hr ?_;(case hd=>rfl);(case hg=>rfl);(case hr=>first | (go_simp;done) | (go_simp;rfl))
          intro b6 hg o3 hbox hb
          have e6:=A_ hbox
          have d3:=gw hg HB
          have h2:=d3
          have d8:=nl hg b3
          have e2:=ng hg b3
          have e0:=nl hg b4
          have e4:=ng hg b4
          replace b3:=kB b3 hb
          replace b4:=kB b4 hb
          replace HB:=bB HB hb
          clear hb hbox hg
          refine hK.out _ _ ⟨((HB.out.cell (World.block_lt_of_cell? w _ b8)).trans b8),((HB.out.cell (World.block_lt_of_cell? w _ b7)).trans b7),((HB.out.cell (World.block_lt_of_cell? w _ c1)).trans c1),((HB.out.cell (World.block_lt_of_cell? w _ b9)).trans b9),((HB.out.cell (World.block_lt_of_cell? w _ d0)).trans d0),((HB.out.cell (World.block_lt_of_cell? w _ d1)).trans d1)⟩ (fun hHeld=>?_)
          clear hK K
          refine nq 14 ?_
          exact norm_ (by first | (simp only [putAll,Act.put,List.setIfInBounds_toArray,List.set_cons_zero,List.set_cons_succ];done) | (simp only [putAll,Act.put,List.setIfInBounds_toArray,List.set_cons_zero,List.set_cons_succ];rfl)) (m5 (b6) _ ⟨hHeld,(kb b3),(kb b4),(kb e6),d3.out,h2.out,d8.out,e2.out,e0.out,e4.out,(bl HB)⟩)
         skip
         rintro ⟨b5,b6⟩ o3 ⟨hS_,i9,j5,j7,j9,l5,l6,l7,l8,l9,m0,m7,m8,m9,n0,n1,n2,n3,n4,n5⟩
         have e5:Aside0 (o3.heap[b5]? = some (.cells #[.int .i64 0,.int .i64 0] 23 (0,0))):=⟨j7⟩
         have e6:Aside0 (o3.heap[b6]? = some (.cells #[.int .i64 0,.int .i64 0] 23 (0,0))):=⟨j9⟩
         have d2:Aside0 (w.heap.size ≤ b5):=⟨l5⟩
         have h1:Aside0 (w.heap.size ≤ b5):=⟨l6⟩
         have d7:Aside0 (d4 ≠ b5):=⟨l7⟩
         have e1:Aside0 (b5 ≠ d4):=⟨l8⟩
         have d9:Aside0 (d5 ≠ b5):=⟨l9⟩
         have e3:Aside0 (b5 ≠ d5):=⟨m0⟩
         have e9:Aside0 (b6 ≠ b5):=⟨m7⟩
         have h0:Aside0 (b5 ≠ b6):=⟨m8⟩
         have d3:Aside0 (w.heap.size ≤ b6):=⟨m9⟩
         have h2:Aside0 (w.heap.size ≤ b6):=⟨n0⟩
         have d8:Aside0 (d4 ≠ b6):=⟨n1⟩
         have e2:Aside0 (b6 ≠ d4):=⟨n2⟩
         have e0:Aside0 (d5 ≠ b6):=⟨n3⟩
         have e4:Aside0 (b6 ≠ d5):=⟨n4⟩
         replace b3:Aside0 (o3.heap[d4]? = some (.cells #[.int .i64 e8,.int .i64 e7] 51 (0,0))):=⟨i9⟩
         replace b4:Aside0 (o3.heap[d5]? = some (.cells #[.slice (some d6) l0.length c0,.int .i64 a1] 94 (0,0))):=⟨j5⟩
         replace HB:Aside0 (Below w.heap.size w o3):=⟨n5⟩
         clear i9 j5 j7 j9 l5 l6 l7 l8 l9 m0 m7 m8 m9 n0 n1 n2 n3 n4 n5
         have hHeld:o3.cell? (b2.add ((b0).toNat * 2)) = some (.int .i64 ((rd_T23 l2 b0).f0)) ∧ o3.cell? ⟨(b2.add ((b0).toNat * 2)).block,(b2.add ((b0).toNat * 2)).off + 1,none⟩ = some (.int .i64 ((rd_T23 l2 b0).f1)) ∧ o3.cell? (b2.add ((b1).toNat * 2)) = some (.int .i64 ((rd_T23 l2 b1).f0)) ∧ o3.cell? ⟨(b2.add ((b1).toNat * 2)).block,(b2.add ((b1).toNat * 2)).off + 1,none⟩ = some (.int .i64 ((rd_T23 l2 b1).f1)) ∧ o3.cell? (d6.add (b0).toNat) = some (.int .i64 (rd l0 b0)) ∧ o3.cell? (d6.add (b1).toNat) = some (.int .i64 (rd l0 b1)):=hS_
         refine norm_ (a':=?_) ?_ ?_
         rotate_left
         ·simp only [putAll,Act.put,List.setIfInBounds_toArray,List.set_cons_zero,List.set_cons_succ]
          rfl
         refine oq 17 60 6553599 HT_ (fun K hK=>?_)
         refine gq Try.func63 #[.agg #[.int .i64 h7,.int .i64 h8],.int .i64 (rd l0 b0),.int .i64 (rd l0 b1)] ?_
         with_reducible refine (shares_garment.calls k2 h7 h8 (rd l0 b0) (rd l0 b1) h3 h5 h4 h6 _ t2.out).mono ?_
         rintro e q5 ⟨rfl,hb⟩
         refine ⟨_,rfl,?_⟩
         replace b3:=kB b3 hb
         replace b4:=kB b4 hb
         replace e5:=kB e5 hb
         replace e6:=kB e6 hb
         replace HB:=bB HB hb
         (try clear hb)
         refine hK.out _ _ ⟨((HB.out.cell (World.block_lt_of_cell? w _ b8)).trans b8),((HB.out.cell (World.block_lt_of_cell? w _ b7)).trans b7),((HB.out.cell (World.block_lt_of_cell? w _ c1)).trans c1),((HB.out.cell (World.block_lt_of_cell? w _ b9)).trans b9),((HB.out.cell (World.block_lt_of_cell? w _ d0)).trans d0),((HB.out.cell (World.block_lt_of_cell? w _ d1)).trans d1)⟩ (fun hHeld=>?_)
         clear hK K
         refine nq 60 ?_
         refine pq 18 42 6815743 HT_ ?_
         refine pq 19 61 7340031 HT_ ?_
         refine pq 20 62 8388607 HT_ ?_
         exact norm_ (by first | (simp only [putAll,Act.put,List.setIfInBounds_toArray,List.set_cons_zero,List.set_cons_succ];done) | (simp only [putAll,Act.put,List.setIfInBounds_toArray,List.set_cons_zero,List.set_cons_succ];rfl)) (h9 (b5,b6) _ ⟨hHeld,(kb b3),(kb b4),(kb e5),(kb e6),d2.out,h1.out,d7.out,e1.out,d9.out,e3.out,e9.out,h0.out,d3.out,h2.out,d8.out,e2.out,e0.out,e4.out,(bl HB)⟩)
        skip
        rintro b6 o3 ⟨hS_,i9,j5,j7,j9,l5,l6,l7,l8,l9,m0⟩
        have e6:Aside0 (o3.heap[b6]? = some (.cells #[.int .i64 0,.int .i64 0] 23 (0,0))):=⟨j7⟩
        have d3:Aside0 (w.heap.size ≤ b6):=⟨j9⟩
        have h2:Aside0 (w.heap.size ≤ b6):=⟨l5⟩
        have d8:Aside0 (d4 ≠ b6):=⟨l6⟩
        have e2:Aside0 (b6 ≠ d4):=⟨l7⟩
        have e0:Aside0 (d5 ≠ b6):=⟨l8⟩
        have e4:Aside0 (b6 ≠ d5):=⟨l9⟩
        replace b3:Aside0 (o3.heap[d4]? = some (.cells #[.int .i64 e8,.int .i64 e7] 51 (0,0))):=⟨i9⟩
        replace b4:Aside0 (o3.heap[d5]? = some (.cells #[.slice (some d6) l0.length c0,.int .i64 a1] 94 (0,0))):=⟨j5⟩
        replace HB:Aside0 (Below w.heap.size w o3):=⟨m0⟩
        clear i9 j5 j7 j9 l5 l6 l7 l8 l9 m0
        have hHeld:o3.cell? (b2.add ((b0).toNat * 2)) = some (.int .i64 ((rd_T23 l2 b0).f0)) ∧ o3.cell? ⟨(b2.add ((b0).toNat * 2)).block,(b2.add ((b0).toNat * 2)).off + 1,none⟩ = some (.int .i64 ((rd_T23 l2 b0).f1)) ∧ o3.cell? (b2.add ((b1).toNat * 2)) = some (.int .i64 ((rd_T23 l2 b1).f0)) ∧ o3.cell? ⟨(b2.add ((b1).toNat * 2)).block,(b2.add ((b1).toNat * 2)).off + 1,none⟩ = some (.int .i64 ((rd_T23 l2 b1).f1)) ∧ o3.cell? (d6.add (b0).toNat) = some (.int .i64 (rd l0 b0)) ∧ o3.cell? (d6.add (b1).toNat) = some (.int .i64 (rd l0 b1)):=hS_
        refine norm_ (a':=?_) ?_ ?_
        rotate_left
        ·simp only [putAll,Act.put,List.setIfInBounds_toArray,List.set_cons_zero,List.set_cons_succ]
         rfl
        refine oq 21 13 8388607 HT_ (fun K hK=>?_)
        refine box_step ?hg (N:=13) ?hd (cs:=#[.int .i64 0,.int .i64 0]) (t:=23) ?hr ?_;(case hd=>rfl);(case hg=>rfl);(case hr=>first | (go_simp;done) | (go_simp;rfl))
        intro b5 hg q5 hbox hb
        have e5:=A_ hbox
        have d2:=gw hg HB
        have h1:=d2
        have d7:=nl hg b3
        have e1:=ng hg b3
        have d9:=nl hg b4
        have e3:=ng hg b4
        have e9:=nl hg e6
        have h0:=ng hg e6
        replace b3:=kB b3 hb
        replace b4:=kB b4 hb
        replace e6:=kB e6 hb
        replace HB:=bB HB hb
        clear hb hbox hg
        refine hK.out _ _ ⟨((HB.out.cell (World.block_lt_of_cell? w _ b8)).trans b8),((HB.out.cell (World.block_lt_of_cell? w _ b7)).trans b7),((HB.out.cell (World.block_lt_of_cell? w _ c1)).trans c1),((HB.out.cell (World.block_lt_of_cell? w _ b9)).trans b9),((HB.out.cell (World.block_lt_of_cell? w _ d0)).trans d0),((HB.out.cell (World.block_lt_of_cell? w _ d1)).trans d1)⟩ (fun hHeld=>?_)
        clear hK K
        refine nq 13 ?_
        exact norm_ (by first | (simp only [putAll,Act.put,List.setIfInBounds_toArray,List.set_cons_zero,List.set_cons_succ];done) | (simp only [putAll,Act.put,List.setIfInBounds_toArray,List.set_cons_zero,List.set_cons_succ];rfl)) (h9 (b5,b6) _ ⟨hHeld,(kb b3),(kb b4),(kb e5),(kb e6),d2.out,h1.out,d7.out,e1.out,d9.out,e3.out,e9.out,h0.out,d3.out,h2.out,d8.out,e2.out,e0.out,e4.out,(bl HB)⟩)
       skip
       rintro b5 o3 ⟨hS_,i9,j5,j7,j9,l5,l6,l7,l8,l9,m0⟩
       have e5:Aside0 (o3.heap[b5]? = some (.cells #[.int .i64 0,.int .i64 0] 23 (0,0))):=⟨j7⟩
       have d2:Aside0 (w.heap.size ≤ b5):=⟨j9⟩
       have h1:Aside0 (w.heap.size ≤ b5):=⟨l5⟩
       have d7:Aside0 (d4 ≠ b5):=⟨l6⟩
       have e1:Aside0 (b5 ≠ d4):=⟨l7⟩
       have d9:Aside0 (d5 ≠ b5):=⟨l8⟩
       have e3:Aside0 (b5 ≠ d5):=⟨l9⟩
       replace b3:Aside0 (o3.heap[d4]? = some (.cells #[.int .i64 e8,.int .i64 e7] 51 (0,0))):=⟨i9⟩
       replace b4:Aside0 (o3.heap[d5]? = some (.cells #[.slice (some d6) l0.length c0,.int .i64 a1] 94 (0,0))):=⟨j5⟩
       replace HB:Aside0 (Below w.heap.size w o3):=⟨m0⟩
       clear i9 j5 j7 j9 l5 l6 l7 l8 l9 m0
       have hHeld:o3.cell? (b2.add ((b0).toNat * 2)) = some (.int .i64 ((rd_T23 l2 b0).f0)) ∧ o3.cell? ⟨(b2.add ((b0).toNat * 2)).block,(b2.add ((b0).toNat * 2)).off + 1,none⟩ = some (.int .i64 ((rd_T23 l2 b0).f1)) ∧ o3.cell? (b2.add ((b1).toNat * 2)) = some (.int .i64 ((rd_T23 l2 b1).f0)) ∧ o3.cell? ⟨(b2.add ((b1).toNat * 2)).block,(b2.add ((b1).toNat * 2)).off + 1,none⟩ = some (.int .i64 ((rd_T23 l2 b1).f1)) ∧ o3.cell? (d6.add (b0).toNat) = some (.int .i64 (rd l0 b0)) ∧ o3.cell? (d6.add (b1).toNat) = some (.int .i64 (rd l0 b1)):=hS_
       refine norm_ (a':=?_) ?_ ?_
       rotate_left
       ·simp only [putAll,Act.put,List.setIfInBounds_toArray,List.set_cons_zero,List.set_cons_succ]
        rfl
       refine oq 22 14 8388607 HT_ (fun K hK=>?_)
       refine box_step ?hg (N:=14) ?hd (cs:=#[.int .i64 0,.int .i64 0]) (t:=23) ?hr ?_;(case hd=>rfl);(case hg=>rfl);(case hr=>first | (go_simp;done) | (go_simp;rfl))
       intro b6 hg q5 hbox hb
       have e6:=A_ hbox
       have d3:=gw hg HB
       have h2:=d3
       have d8:=nl hg b3
       have e2:=ng hg b3
       have e0:=nl hg b4
       have e4:=ng hg b4
       have h0:=nl hg e5
       have e9:=ng hg e5
       replace b3:=kB b3 hb
       replace b4:=kB b4 hb
       replace e5:=kB e5 hb
       replace HB:=bB HB hb
       clear hb hbox hg
       refine hK.out _ _ ⟨((HB.out.cell (World.block_lt_of_cell? w _ b8)).trans b8),((HB.out.cell (World.block_lt_of_cell? w _ b7)).trans b7),((HB.out.cell (World.block_lt_of_cell? w _ c1)).trans c1),((HB.out.cell (World.block_lt_of_cell? w _ b9)).trans b9),((HB.out.cell (World.block_lt_of_cell? w _ d0)).trans d0),((HB.out.cell (World.block_lt_of_cell? w _ d1)).trans d1)⟩ (fun hHeld=>?_)
       clear hK K
       refine nq 14 ?_
       exact norm_ (by first | (simp only [putAll,Act.put,List.setIfInBounds_toArray,List.set_cons_zero,List.set_cons_succ];done) | (simp only [putAll,Act.put,List.setIfInBounds_toArray,List.set_cons_zero,List.set_cons_succ];rfl)) (h9 (b5,b6) _ ⟨hHeld,(kb b3),(kb b4),(kb e5),(kb e6),d2.out,h1.out,d7.out,e1.out,d9.out,e3.out,e9.out,h0.out,d3.out,h2.out,d8.out,e2.out,e0.out,e4.out,(bl HB)⟩)
      rintro ⟨b5,b6⟩ q5 ⟨hS_,i9,j5,j7,j9,l5,l6,l7,l8,l9,m0,m7,m8,m9,n0,n1,n2,n3,n4,n5⟩
      have e5:Aside0 (q5.heap[b5]? = some (.cells #[.int .i64 0,.int .i64 0] 23 (0,0))):=⟨j7⟩
      have e6:Aside0 (q5.heap[b6]? = some (.cells #[.int .i64 0,.int .i64 0] 23 (0,0))):=⟨j9⟩
      have d2:Aside0 (w.heap.size ≤ b5):=⟨l5⟩
      have h1:Aside0 (w.heap.size ≤ b5):=⟨l6⟩
      have d7:Aside0 (d4 ≠ b5):=⟨l7⟩
      have e1:Aside0 (b5 ≠ d4):=⟨l8⟩
      have d9:Aside0 (d5 ≠ b5):=⟨l9⟩
      have e3:Aside0 (b5 ≠ d5):=⟨m0⟩
      have e9:Aside0 (b6 ≠ b5):=⟨m7⟩
      have h0:Aside0 (b5 ≠ b6):=⟨m8⟩
      have d3:Aside0 (w.heap.size ≤ b6):=⟨m9⟩
      have h2:Aside0 (w.heap.size ≤ b6):=⟨n0⟩
      have d8:Aside0 (d4 ≠ b6):=⟨n1⟩
      have e2:Aside0 (b6 ≠ d4):=⟨n2⟩
      have e0:Aside0 (d5 ≠ b6):=⟨n3⟩
      have e4:Aside0 (b6 ≠ d5):=⟨n4⟩
      replace b3:Aside0 (q5.heap[d4]? = some (.cells #[.int .i64 e8,.int .i64 e7] 51 (0,0))):=⟨i9⟩
      replace b4:Aside0 (q5.heap[d5]? = some (.cells #[.slice (some d6) l0.length c0,.int .i64 a1] 94 (0,0))):=⟨j5⟩
      replace HB:Aside0 (Below w.heap.size w q5):=⟨n5⟩
      clear i9 j5 j7 j9 l5 l6 l7 l8 l9 m0 m7 m8 m9 n0 n1 n2 n3 n4 n5
      have hHeld:q5.cell? (b2.add ((b0).toNat * 2)) = some (.int .i64 ((rd_T23 l2 b0).f0)) ∧ q5.cell? ⟨(b2.add ((b0).toNat * 2)).block,(b2.add ((b0).toNat * 2)).off + 1,none⟩ = some (.int .i64 ((rd_T23 l2 b0).f1)) ∧ q5.cell? (b2.add ((b1).toNat * 2)) = some (.int .i64 ((rd_T23 l2 b1).f0)) ∧ q5.cell? ⟨(b2.add ((b1).toNat * 2)).block,(b2.add ((b1).toNat * 2)).off + 1,none⟩ = some (.int .i64 ((rd_T23 l2 b1).f1)) ∧ q5.cell? (d6.add (b0).toNat) = some (.int .i64 (rd l0 b0)) ∧ q5.cell? (d6.add (b1).toNat) = some (.int .i64 (rd l0 b1)):=hS_
      refine norm_ (a':=?_) ?_ ?_
      rotate_left
      ·simp only [putAll,Act.put,List.setIfInBounds_toArray,List.set_cons_zero,List.set_cons_succ]
       rfl
      refine one_ (i:=23) (N:=none) (ba 25 16777215) rfl rfl (one_of HT_.out (by kernel_rfl)) (by decide) (fun K hK=>?_)
      have S4:q5.cell? ⟨b5,0,none⟩ = some (.int .i64 0):=cz e5 0
      have P1:=blk_frozen e5.out 0
      have E1:=d7.out
      have E2:=d9.out
      have E3:=e9.out
      have E4:=e1.out
      have E5:=e3.out
      have E6:=h0.out
      have S5:q5.cell? ⟨b5,1,none⟩ = some (.int .i64 0):=cz e5 1
      have P2:=blk_frozen e5.out 1
      have E7:=d7.out
      have E8:=d9.out
      have E9:=e9.out
      have F0:=e1.out
      have F1:=e3.out
      have F2:=h0.out
      refine skip_ (w1:=?_) (by rfl) rfl ?_ ?_
      rotate_left
      ·go_simp
       rfl
      refine hK.out _ _ ⟨((cell_far (p:=⟨b5,_,none⟩) (by first | exact Nat.ne_of_lt (Nat.lt_of_lt_of_le (by have:=World.block_lt_of_cell? _ _ b8;first | rwa [add_block] at this | exact this) d2.out) | (rw [add_block];exact Nat.ne_of_lt (Nat.lt_of_lt_of_le (by have:=World.block_lt_of_cell? _ _ b8;first | rwa [add_block] at this | exact this) d2.out)) | (show (Addr.add _ _).block ≠ _;rw [add_block];exact Nat.ne_of_lt (Nat.lt_of_lt_of_le (by have:=World.block_lt_of_cell? _ _ b8;first | rwa [add_block] at this | exact this) d2.out)) | (dsimp only;exact Nat.ne_of_lt (Nat.lt_of_lt_of_le (by have:=World.block_lt_of_cell? _ _ b8;first | rwa [add_block] at this | exact this) d2.out))) _).trans (((cell_far (p:=⟨b5,_,none⟩) (by first | exact Nat.ne_of_lt (Nat.lt_of_lt_of_le (by have:=World.block_lt_of_cell? _ _ b8;first | rwa [add_block] at this | exact this) d2.out) | (rw [add_block];exact Nat.ne_of_lt (Nat.lt_of_lt_of_le (by have:=World.block_lt_of_cell? _ _ b8;first | rwa [add_block] at this | exact this) d2.out)) | (show (Addr.add _ _).block ≠ _;rw [add_block];exact Nat.ne_of_lt (Nat.lt_of_lt_of_le (by have:=World.block_lt_of_cell? _ _ b8;first | rwa [add_block] at this | exact this) d2.out)) | (dsimp only;exact Nat.ne_of_lt (Nat.lt_of_lt_of_le (by have:=World.block_lt_of_cell? _ _ b8;first | rwa [add_block] at this | exact this) d2.out))) _).trans (hHeld.1)))),((cell_far (p:=⟨b5,_,none⟩) (by first | exact Nat.ne_of_lt (Nat.lt_of_lt_of_le (by have:=World.block_lt_of_cell? _ _ b7;first | rwa [add_block] at this | exact this) d2.out) | (rw [add_block];exact Nat.ne_of_lt (Nat.lt_of_lt_of_le (by have:=World.block_lt_of_cell? _ _ b7;first | rwa [add_block] at this | exact this) d2.out)) | (show (Addr.add _ _).block ≠ _;rw [add_block];exact Nat.ne_of_lt (Nat.lt_of_lt_of_le (by have:=World.block_lt_of_cell? _ _ b7;first | rwa [add_block] at this | exact this) d2.out)) | (dsimp only;exact Nat.ne_of_lt (Nat.lt_of_lt_of_le (by have:=World.block_lt_of_cell? _ _ b7;first | rwa [add_block] at this | exact this) d2.out))) _).trans (((cell_far (p:=⟨b5,_,none⟩) (by first | exact Nat.ne_of_lt (Nat.lt_of_lt_of_le (by have:=World.block_lt_of_cell? _ _ b7;first | rwa [add_block] at this | exact this) d2.out) | (rw [add_block];exact Nat.ne_of_lt (Nat.lt_of_lt_of_le (by have:=World.block_lt_of_cell? _ _ b7;first | rwa [add_block] at this | exact this) d2.out)) | (show (Addr.add _ _).block ≠ _;rw [add_block];exact Nat.ne_of_lt (Nat.lt_of_lt_of_le (by have:=World.block_lt_of_cell? _ _ b7;first | rwa [add_block] at this | exact this) d2.out)) | (dsimp only;exact Nat.ne_of_lt (Nat.lt_of_lt_of_le (by have:=World.block_lt_of_cell? _ _ b7;first | rwa [add_block] at this | exact this) d2.out))) _).trans (hHeld.2.1)))),((cell_far (p:=⟨b5,_,none⟩) (by first | exact Nat.ne_of_lt (Nat.lt_of_lt_of_le (by have:=World.block_lt_of_cell? _ _ c1;first | rwa [add_block] at this | exact this) d2.out) | (rw [add_block];exact Nat.ne_of_lt (Nat.lt_of_lt_of_le (by have:=World.block_lt_of_cell? _ _ c1;first | rwa [add_block] at this | exact this) d2.out)) | (show (Addr.add _ _).block ≠ _;rw [add_block];exact Nat.ne_of_lt (Nat.lt_of_lt_of_le (by have:=World.block_lt_of_cell? _ _ c1;first | rwa [add_block] at this | exact this) d2.out)) | (dsimp only;exact Nat.ne_of_lt (Nat.lt_of_lt_of_le (by have:=World.block_lt_of_cell? _ _ c1;first | rwa [add_block] at this | exact this) d2.out))) _).trans (((cell_far (p:=⟨b5,_,none⟩) (by first | exact Nat.ne_of_lt (Nat.lt_of_lt_of_le (by have:=World.block_lt_of_cell? _ _ c1;first | rwa [add_block] at this | exact this) d2.out) | (rw [add_block];exact Nat.ne_of_lt (Nat.lt_of_lt_of_le (by have:=World.block_lt_of_cell? _ _ c1;first | rwa [add_block] at this | exact this) d2.out)) | (show (Addr.add _ _).block ≠ _;rw [add_block];exact Nat.ne_of_lt (Nat.lt_of_lt_of_le (by have:=World.block_lt_of_cell? _ _ c1;first | rwa [add_block] at this | exact this) d2.out)) | (dsimp only;exact Nat.ne_of_lt (Nat.lt_of_lt_of_le (by have:=World.block_lt_of_cell? _ _ c1;first | rwa [add_block] at this | exact this) d2.out))) _).trans (hHeld.2.2.1)))),((cell_far (p:=⟨b5,_,none⟩) (by first | exact Nat.ne_of_lt (Nat.lt_of_lt_of_le (by have:=World.block_lt_of_cell? _ _ b9;first | rwa [add_block] at this | exact this) d2.out) | (rw [add_block];exact Nat.ne_of_lt (Nat.lt_of_lt_of_le (by have:=World.block_lt_of_cell? _ _ b9;first | rwa [add_block] at this | exact this) d2.out)) | (show (Addr.add _ _).block ≠ _;rw [add_block];exact Nat.ne_of_lt (Nat.lt_of_lt_of_le (by have:=World.block_lt_of_cell? _ _ b9;first | rwa [add_block] at this | exact this) d2.out)) | (dsimp only;exact Nat.ne_of_lt (Nat.lt_of_lt_of_le (by have:=World.block_lt_of_cell? _ _ b9;first | rwa [add_block] at this | exact this) d2.out))) _).trans (((cell_far (p:=⟨b5,_,none⟩) (by first | exact Nat.ne_of_lt (Nat.lt_of_lt_of_le (by have:=World.block_lt_of_cell? _ _ b9;first | rwa [add_block] at this | exact this) d2.out) | (rw [add_block];exact Nat.ne_of_lt (Nat.lt_of_lt_of_le (by have:=World.block_lt_of_cell? _ _ b9;first | rwa [add_block] at this | exact this) d2.out)) | (show (Addr.add _ _).block ≠ _;rw [add_block];exact Nat.ne_of_lt (Nat.lt_of_lt_of_le (by have:=World.block_lt_of_cell? _ _ b9;first | rwa [add_block] at this | exact this) d2.out)) | (dsimp only;exact Nat.ne_of_lt (Nat.lt_of_lt_of_le (by have:=World.block_lt_of_cell? _ _ b9;first | rwa [add_block] at this | exact this) d2.out))) _).trans (hHeld.2.2.2.1)))),((cell_far (p:=⟨b5,_,none⟩) (by first | exact Nat.ne_of_lt (Nat.lt_of_lt_of_le (by have:=World.block_lt_of_cell? _ _ d0;first | rwa [add_block] at this | exact this) d2.out) | (rw [add_block];exact Nat.ne_of_lt (Nat.lt_of_lt_of_le (by have:=World.block_lt_of_cell? _ _ d0;first | rwa [add_block] at this | exact this) d2.out)) | (show (Addr.add _ _).block ≠ _;rw [add_block];exact Nat.ne_of_lt (Nat.lt_of_lt_of_le (by have:=World.block_lt_of_cell? _ _ d0;first | rwa [add_block] at this | exact this) d2.out)) | (dsimp only;exact Nat.ne_of_lt (Nat.lt_of_lt_of_le (by have:=World.block_lt_of_cell? _ _ d0;first | rwa [add_block] at this | exact this) d2.out))) _).trans (((cell_far (p:=⟨b5,_,none⟩) (by first | exact Nat.ne_of_lt (Nat.lt_of_lt_of_le (by have:=World.block_lt_of_cell? _ _ d0;first | rwa [add_block] at this | exact this) d2.out) | (rw [add_block];exact Nat.ne_of_lt (Nat.lt_of_lt_of_le (by have:=World.block_lt_of_cell? _ _ d0;first | rwa [add_block] at this | exact this) d2.out)) | (show (Addr.add _ _).block ≠ _;rw [add_block];exact Nat.ne_of_lt (Nat.lt_of_lt_of_le (by have:=World.block_lt_of_cell? _ _ d0;first | rwa [add_block] at this | exact this) d2.out)) | (dsimp only;exact Nat.ne_of_lt (Nat.lt_of_lt_of_le (by have:=World.block_lt_of_cell? _ _ d0;first | rwa [add_block] at this | exact this) d2.out))) _).trans (hHeld.2.2.2.2.1)))),((cell_far (p:=⟨b5,_,none⟩) (by first | exact Nat.ne_of_lt (Nat.lt_of_lt_of_le (by have:=World.block_lt_of_cell? _ _ d1;first | rwa [add_block] at this | exact this) d2.out) | (rw [add_block];exact Nat.ne_of_lt (Nat.lt_of_lt_of_le (by have:=World.block_lt_of_cell? _ _ d1;first | rwa [add_block] at this | exact this) d2.out)) | (show (Addr.add _ _).block ≠ _;rw [add_block];exact Nat.ne_of_lt (Nat.lt_of_lt_of_le (by have:=World.block_lt_of_cell? _ _ d1;first | rwa [add_block] at this | exact this) d2.out)) | (dsimp only;exact Nat.ne_of_lt (Nat.lt_of_lt_of_le (by have:=World.block_lt_of_cell? _ _ d1;first | rwa [add_block] at this | exact this) d2.out))) _).trans (((cell_far (p:=⟨b5,_,none⟩) (by first | exact Nat.ne_of_lt (Nat.lt_of_lt_of_le (by have:=World.block_lt_of_cell? _ _ d1;first | rwa [add_block] at this | exact this) d2.out) | (rw [add_block];exact Nat.ne_of_lt (Nat.lt_of_lt_of_le (by have:=World.block_lt_of_cell? _ _ d1;first | rwa [add_block] at this | exact this) d2.out)) | (show (Addr.add _ _).block ≠ _;rw [add_block];exact Nat.ne_of_lt (Nat.lt_of_lt_of_le (by have:=World.block_lt_of_cell? _ _ d1;first | rwa [add_block] at this | exact this) d2.out)) | (dsimp only;exact Nat.ne_of_lt (Nat.lt_of_lt_of_le (by have:=World.block_lt_of_cell? _ _ d1;first | rwa [add_block] at this | exact this) d2.out))) _).trans (hHeld.2.2.2.2.2))))⟩ (fun hHeld=>?_)
      clear hK K
      refine one_ (i:=24) (N:=none) (ba 25 33554431) rfl rfl (one_of HT_.out (by kernel_rfl)) (by decide) (fun K hK=>?_)
      have S6:q5.cell? ⟨b6,0,none⟩ = some (.int .i64 0):=cz e6 0
      have P3:=blk_frozen e6.out 0
      have F3:=d8.out
      have F4:=e0.out
      have F5:=h0.out
      have F6:=e2.out
      have F7:=e4.out
      have F8:=e9.out
      have S7:q5.cell? ⟨b6,1,none⟩ = some (.int .i64 0):=cz e6 1
      have P4:=blk_frozen e6.out 1
      have F9:=d8.out
      have G0:=e0.out
      have G1:=h0.out
      have G2:=e2.out
      have G3:=e4.out
      have G4:=e9.out
      refine skip_ (w1:=?_) (by rfl) rfl ?_ ?_
      rotate_left
      ·go_simp
       rfl
      refine hK.out _ _ ⟨((cell_far (p:=⟨b6,_,none⟩) (by first | exact Nat.ne_of_lt (Nat.lt_of_lt_of_le (by have:=World.block_lt_of_cell? _ _ b8;first | rwa [add_block] at this | exact this) d3.out) | (rw [add_block];exact Nat.ne_of_lt (Nat.lt_of_lt_of_le (by have:=World.block_lt_of_cell? _ _ b8;first | rwa [add_block] at this | exact this) d3.out)) | (show (Addr.add _ _).block ≠ _;rw [add_block];exact Nat.ne_of_lt (Nat.lt_of_lt_of_le (by have:=World.block_lt_of_cell? _ _ b8;first | rwa [add_block] at this | exact this) d3.out)) | (dsimp only;exact Nat.ne_of_lt (Nat.lt_of_lt_of_le (by have:=World.block_lt_of_cell? _ _ b8;first | rwa [add_block] at this | exact this) d3.out))) _).trans (((cell_far (p:=⟨b6,_,none⟩) (by first | exact Nat.ne_of_lt (Nat.lt_of_lt_of_le (by have:=World.block_lt_of_cell? _ _ b8;first | rwa [add_block] at this | exact this) d3.out) | (rw [add_block];exact Nat.ne_of_lt (Nat.lt_of_lt_of_le (by have:=World.block_lt_of_cell? _ _ b8;first | rwa [add_block] at this | exact this) d3.out)) | (show (Addr.add _ _).block ≠ _;rw [add_block];exact Nat.ne_of_lt (Nat.lt_of_lt_of_le (by have:=World.block_lt_of_cell? _ _ b8;first | rwa [add_block] at this | exact this) d3.out)) | (dsimp only;exact Nat.ne_of_lt (Nat.lt_of_lt_of_le (by have:=World.block_lt_of_cell? _ _ b8;first | rwa [add_block] at this | exact this) d3.out))) _).trans (hHeld.1)))),((cell_far (p:=⟨b6,_,none⟩) (by first | exact Nat.ne_of_lt (Nat.lt_of_lt_of_le (by have:=World.block_lt_of_cell? _ _ b7;first | rwa [add_block] at this | exact this) d3.out) | (rw [add_block];exact Nat.ne_of_lt (Nat.lt_of_lt_of_le (by have:=World.block_lt_of_cell? _ _ b7;first | rwa [add_block] at this | exact this) d3.out)) | (show (Addr.add _ _).block ≠ _;rw [add_block];exact Nat.ne_of_lt (Nat.lt_of_lt_of_le (by have:=World.block_lt_of_cell? _ _ b7;first | rwa [add_block] at this | exact this) d3.out)) | (dsimp only;exact Nat.ne_of_lt (Nat.lt_of_lt_of_le (by have:=World.block_lt_of_cell? _ _ b7;first | rwa [add_block] at this | exact this) d3.out))) _).trans (((cell_far (p:=⟨b6,_,none⟩) (by first | exact Nat.ne_of_lt (Nat.lt_of_lt_of_le (by have:=World.block_lt_of_cell? _ _ b7;first | rwa [add_block] at this | exact this) d3.out) | (rw [add_block];exact Nat.ne_of_lt (Nat.lt_of_lt_of_le (by have:=World.block_lt_of_cell? _ _ b7;first | rwa [add_block] at this | exact this) d3.out)) | (show (Addr.add _ _).block ≠ _;rw [add_block];exact Nat.ne_of_lt (Nat.lt_of_lt_of_le (by have:=World.block_lt_of_cell? _ _ b7;first | rwa [add_block] at this | exact this) d3.out)) | (dsimp only;exact Nat.ne_of_lt (Nat.lt_of_lt_of_le (by have:=World.block_lt_of_cell? _ _ b7;first | rwa [add_block] at this | exact this) d3.out))) _).trans (hHeld.2.1)))),((cell_far (p:=⟨b6,_,none⟩) (by first | exact Nat.ne_of_lt (Nat.lt_of_lt_of_le (by have:=World.block_lt_of_cell? _ _ c1;first | rwa [add_block] at this | exact this) d3.out) | (rw [add_block];exact Nat.ne_of_lt (Nat.lt_of_lt_of_le (by have:=World.block_lt_of_cell? _ _ c1;first | rwa [add_block] at this | exact this) d3.out)) | (show (Addr.add _ _).block ≠ _;rw [add_block];exact Nat.ne_of_lt (Nat.lt_of_lt_of_le (by have:=World.block_lt_of_cell? _ _ c1;first | rwa [add_block] at this | exact this) d3.out)) | (dsimp only;exact Nat.ne_of_lt (Nat.lt_of_lt_of_le (by have:=World.block_lt_of_cell? _ _ c1;first | rwa [add_block] at this | exact this) d3.out))) _).trans (((cell_far (p:=⟨b6,_,none⟩) (by first | exact Nat.ne_of_lt (Nat.lt_of_lt_of_le (by have:=World.block_lt_of_cell? _ _ c1;first | rwa [add_block] at this | exact this) d3.out) | (rw [add_block];exact Nat.ne_of_lt (Nat.lt_of_lt_of_le (by have:=World.block_lt_of_cell? _ _ c1;first | rwa [add_block] at this | exact this) d3.out)) | (show (Addr.add _ _).block ≠ _;rw [add_block];exact Nat.ne_of_lt (Nat.lt_of_lt_of_le (by have:=World.block_lt_of_cell? _ _ c1;first | rwa [add_block] at this | exact this) d3.out)) | (dsimp only;exact Nat.ne_of_lt (Nat.lt_of_lt_of_le (by have:=World.block_lt_of_cell? _ _ c1;first | rwa [add_block] at this | exact this) d3.out))) _).trans (hHeld.2.2.1)))),((cell_far (p:=⟨b6,_,none⟩) (by first | exact Nat.ne_of_lt (Nat.lt_of_lt_of_le (by have:=World.block_lt_of_cell? _ _ b9;first | rwa [add_block] at this | exact this) d3.out) | (rw [add_block];exact Nat.ne_of_lt (Nat.lt_of_lt_of_le (by have:=World.block_lt_of_cell? _ _ b9;first | rwa [add_block] at this | exact this) d3.out)) | (show (Addr.add _ _).block ≠ _;rw [add_block];exact Nat.ne_of_lt (Nat.lt_of_lt_of_le (by have:=World.block_lt_of_cell? _ _ b9;first | rwa [add_block] at this | exact this) d3.out)) | (dsimp only;exact Nat.ne_of_lt (Nat.lt_of_lt_of_le (by have:=World.block_lt_of_cell? _ _ b9;first | rwa [add_block] at this | exact this) d3.out))) _).trans (((cell_far (p:=⟨b6,_,none⟩) (by first | exact Nat.ne_of_lt (Nat.lt_of_lt_of_le (by have:=World.block_lt_of_cell? _ _ b9;first | rwa [add_block] at this | exact this) d3.out) | (rw [add_block];exact Nat.ne_of_lt (Nat.lt_of_lt_of_le (by have:=World.block_lt_of_cell? _ _ b9;first | rwa [add_block] at this | exact this) d3.out)) | (show (Addr.add _ _).block ≠ _;rw [add_block];exact Nat.ne_of_lt (Nat.lt_of_lt_of_le (by have:=World.block_lt_of_cell? _ _ b9;first | rwa [add_block] at this | exact this) d3.out)) | (dsimp only;exact Nat.ne_of_lt (Nat.lt_of_lt_of_le (by have:=World.block_lt_of_cell? _ _ b9;first | rwa [add_block] at this | exact this) d3.out))) _).trans (hHeld.2.2.2.1)))),((cell_far (p:=⟨b6,_,none⟩) (by first | exact Nat.ne_of_lt (Nat.lt_of_lt_of_le (by have:=World.block_lt_of_cell? _ _ d0;first | rwa [add_block] at this | exact this) d3.out) | (rw [add_block];exact Nat.ne_of_lt (Nat.lt_of_lt_of_le (by have:=World.block_lt_of_cell? _ _ d0;first | rwa [add_block] at this | exact this) d3.out)) | (show (Addr.add _ _).block ≠ _;rw [add_block];exact Nat.ne_of_lt (Nat.lt_of_lt_of_le (by have:=World.block_lt_of_cell? _ _ d0;first | rwa [add_block] at this | exact this) d3.out)) | (dsimp only;exact Nat.ne_of_lt (Nat.lt_of_lt_of_le (by have:=World.block_lt_of_cell? _ _ d0;first | rwa [add_block] at this | exact this) d3.out))) _).trans (((cell_far (p:=⟨b6,_,none⟩) (by first | exact Nat.ne_of_lt (Nat.lt_of_lt_of_le (by have:=World.block_lt_of_cell? _ _ d0;first | rwa [add_block] at this | exact this) d3.out) | (rw [add_block];exact Nat.ne_of_lt (Nat.lt_of_lt_of_le (by have:=World.block_lt_of_cell? _ _ d0;first | rwa [add_block] at this | exact this) d3.out)) | (show (Addr.add _ _).block ≠ _;rw [add_block];exact Nat.ne_of_lt (Nat.lt_of_lt_of_le (by have:=World.block_lt_of_cell? _ _ d0;first | rwa [add_block] at this | exact this) d3.out)) | (dsimp only;exact Nat.ne_of_lt (Nat.lt_of_lt_of_le (by have:=World.block_lt_of_cell? _ _ d0;first | rwa [add_block] at this | exact this) d3.out))) _).trans (hHeld.2.2.2.2.1)))),((cell_far (p:=⟨b6,_,none⟩) (by first | exact Nat.ne_of_lt (Nat.lt_of_lt_of_le (by have:=World.block_lt_of_cell? _ _ d1;first | rwa [add_block] at this | exact this) d3.out) | (rw [add_block];exact Nat.ne_of_lt (Nat.lt_of_lt_of_le (by have:=World.block_lt_of_cell? _ _ d1;first | rwa [add_block] at this | exact this) d3.out)) | (show (Addr.add _ _).block ≠ _;rw [add_block];exact Nat.ne_of_lt (Nat.lt_of_lt_of_le (by have:=World.block_lt_of_cell? _ _ d1;first | rwa [add_block] at this | exact this) d3.out)) | (dsimp only;exact Nat.ne_of_lt (Nat.lt_of_lt_of_le (by have:=World.block_lt_of_cell? _ _ d1;first | rwa [add_block] at this | exact this) d3.out))) _).trans (((cell_far (p:=⟨b6,_,none⟩) (by first | exact Nat.ne_of_lt (Nat.lt_of_lt_of_le (by have:=World.block_lt_of_cell? _ _ d1;first | rwa [add_block] at this | exact this) d3.out) | (rw [add_block];exact Nat.ne_of_lt (Nat.lt_of_lt_of_le (by have:=World.block_lt_of_cell? _ _ d1;first | rwa [add_block] at this | exact this) d3.out)) | (show (Addr.add _ _).block ≠ _;rw [add_block];exact Nat.ne_of_lt (Nat.lt_of_lt_of_le (by have:=World.block_lt_of_cell? _ _ d1;first | rwa [add_block] at this | exact this) d3.out)) | (dsimp only;exact Nat.ne_of_lt (Nat.lt_of_lt_of_le (by have:=World.block_lt_of_cell? _ _ d1;first | rwa [add_block] at this | exact this) d3.out))) _).trans (hHeld.2.2.2.2.2))))⟩ (fun hHeld=>?_)
      clear hK K
      refine done_ (done_of HT_.out (by kernel_rfl)) ?_
      try go_wp2
      have x3:Aside0 (((((q5.setCell ⟨b5,0,none⟩ (.int .i64 h3)).setCell ⟨b5,1,none⟩ (.int .i64 h5)).setCell ⟨b6,0,none⟩ (.int .i64 h4)).setCell ⟨b6,1,none⟩ (.int .i64 h6)).heap[d4]? = some (.cells #[.int .i64 e8,.int .i64 e7] 51 (0,0))):=⟨by (with_reducible repeat (first | refine blk_drewN ?_ _ | refine blk_drew ?_ | refine blk_alloc ?_ _));refine blk_far ?_ d8.out _;(with_reducible repeat (first | refine blk_drewN ?_ _ | refine blk_drew ?_ | refine blk_alloc ?_ _));refine blk_far ?_ d8.out _;(with_reducible repeat (first | refine blk_drewN ?_ _ | refine blk_drew ?_ | refine blk_alloc ?_ _));refine blk_far ?_ d7.out _;(with_reducible repeat (first | refine blk_drewN ?_ _ | refine blk_drew ?_ | refine blk_alloc ?_ _));refine blk_far ?_ d7.out _;(with_reducible repeat (first | refine blk_drewN ?_ _ | refine blk_drew ?_ | refine blk_alloc ?_ _));exact b3.out⟩
      have x4:Aside0 (((((q5.setCell ⟨b5,0,none⟩ (.int .i64 h3)).setCell ⟨b5,1,none⟩ (.int .i64 h5)).setCell ⟨b6,0,none⟩ (.int .i64 h4)).setCell ⟨b6,1,none⟩ (.int .i64 h6)).heap[d5]? = some (.cells #[.slice (some d6) l0.length c0,.int .i64 a1] 94 (0,0))):=⟨by (with_reducible repeat (first | refine blk_drewN ?_ _ | refine blk_drew ?_ | refine blk_alloc ?_ _));refine blk_far ?_ e0.out _;(with_reducible repeat (first | refine blk_drewN ?_ _ | refine blk_drew ?_ | refine blk_alloc ?_ _));refine blk_far ?_ e0.out _;(with_reducible repeat (first | refine blk_drewN ?_ _ | refine blk_drew ?_ | refine blk_alloc ?_ _));refine blk_far ?_ d9.out _;(with_reducible repeat (first | refine blk_drewN ?_ _ | refine blk_drew ?_ | refine blk_alloc ?_ _));refine blk_far ?_ d9.out _;(with_reducible repeat (first | refine blk_drewN ?_ _ | refine blk_drew ?_ | refine blk_alloc ?_ _));exact b4.out⟩
      have x5:Aside0 (((((q5.setCell ⟨b5,0,none⟩ (.int .i64 h3)).setCell ⟨b5,1,none⟩ (.int .i64 h5)).setCell ⟨b6,0,none⟩ (.int .i64 h4)).setCell ⟨b6,1,none⟩ (.int .i64 h6)).heap[b5]? = some (.cells #[.int .i64 h3,.int .i64 h5] 23 (0,0))):=⟨by (with_reducible repeat (first | refine blk_drewN ?_ _ | refine blk_drew ?_ | refine blk_alloc ?_ _));refine blk_far ?_ h0.out _;(with_reducible repeat (first | refine blk_drewN ?_ _ | refine blk_drew ?_ | refine blk_alloc ?_ _));refine blk_far ?_ h0.out _;(with_reducible repeat (first | refine blk_drewN ?_ _ | refine blk_drew ?_ | refine blk_alloc ?_ _));refine blk_put (cs:=#[.int .i64 h3,.int .i64 0]) ?_ 1 _ rfl;(with_reducible repeat (first | refine blk_drewN ?_ _ | refine blk_drew ?_ | refine blk_alloc ?_ _));refine blk_put (cs:=#[.int .i64 0,.int .i64 0]) ?_ 0 _ rfl;(with_reducible repeat (first | refine blk_drewN ?_ _ | refine blk_drew ?_ | refine blk_alloc ?_ _));exact e5.out⟩
      have x6:Aside0 (((((q5.setCell ⟨b5,0,none⟩ (.int .i64 h3)).setCell ⟨b5,1,none⟩ (.int .i64 h5)).setCell ⟨b6,0,none⟩ (.int .i64 h4)).setCell ⟨b6,1,none⟩ (.int .i64 h6)).heap[b6]? = some (.cells #[.int .i64 h4,.int .i64 h6] 23 (0,0))):=⟨by (with_reducible repeat (first | refine blk_drewN ?_ _ | refine blk_drew ?_ | refine blk_alloc ?_ _));refine blk_put (cs:=#[.int .i64 h4,.int .i64 0]) ?_ 1 _ rfl;(with_reducible repeat (first | refine blk_drewN ?_ _ | refine blk_drew ?_ | refine blk_alloc ?_ _));refine blk_put (cs:=#[.int .i64 0,.int .i64 0]) ?_ 0 _ rfl;(with_reducible repeat (first | refine blk_drewN ?_ _ | refine blk_drew ?_ | refine blk_alloc ?_ _));refine blk_far ?_ e9.out _;(with_reducible repeat (first | refine blk_drewN ?_ _ | refine blk_drew ?_ | refine blk_alloc ?_ _));refine blk_far ?_ e9.out _;(with_reducible repeat (first | refine blk_drewN ?_ _ | refine blk_drew ?_ | refine blk_alloc ?_ _));exact e6.out⟩
      have x7:Aside0 (Below w.heap.size w ((((q5.setCell ⟨b5,0,none⟩ (.int .i64 h3)).setCell ⟨b5,1,none⟩ (.int .i64 h5)).setCell ⟨b6,0,none⟩ (.int .i64 h4)).setCell ⟨b6,1,none⟩ (.int .i64 h6))):=⟨bl HB⟩
      generalize ((((q5.setCell ⟨b5,0,none⟩ (.int .i64 h3)).setCell ⟨b5,1,none⟩ (.int .i64 h5)).setCell ⟨b6,0,none⟩ (.int .i64 h4)).setCell ⟨b6,1,none⟩ (.int .i64 h6)) = S8 at x3 x4 x5 x6 x7 ⊢
      have b3:=x3
      have b4:=x4
      have e5:=x5
      have e6:=x6
      have HB:=x7
      clear x3 x4 x5 x6 x7
      replace b3:=kD b3
      replace b4:=kD b4
      replace e5:=kD e5
      replace e6:=kD e6
      replace HB:=bD HB
      have p7:0 ≤ (b0:Int):=of_decide_eq_true (by first | (with_reducible assumption) | assumption)
      have p8:b0 < (l2.length:Int):=of_decide_eq_true (by first | (with_reducible assumption) | assumption)
      obtain ⟨r6,s7,i6,i7⟩:=at_T23 t0.out b0 p7 p8
      have n6:=i7
      have n7:=i6
      obtain rfl:b2 = r6:=(by injection s7)
      replace i6:=(HB.out.cell (World.block_lt_of_cell? w _ i6)).trans i6
      replace i7:=(HB.out.cell (World.block_lt_of_cell? w _ i7)).trans i7
      replace p7:=eq_true p7
      replace p8:=eq_true p8
      refine start_ (n:=14) (S:=fun w'=>w'.cell? ⟨b5,0,none⟩ = some (.int .i64 h3) ∧ w'.cell? ⟨b5,1,none⟩ = some (.int .i64 h5) ∧ w'.cell? (b2.add ((b0).toNat * 2)) = some (.int .i64 ((rd_T23 l2 b0).f0)) ∧ w'.cell? ⟨(b2.add ((b0).toNat * 2)).block,(b2.add ((b0).toNat * 2)).off + 1,none⟩ = some (.int .i64 ((rd_T23 l2 b0).f1))) (ds:=[]) (ba 14 0) (by kernel_rfl) rfl rfl ⟨cz e5 0,cz e5 1,((HB.out.cell (World.block_lt_of_cell? w _ n7)).trans n7),((HB.out.cell (World.block_lt_of_cell? w _ n6)).trans n6)⟩ (fun hHeld=>?_);refine with_tabW shares_Agrees.tab13 shares_Agrees.bits13 (fun HT_ HW_=>?_)
      generalize S8.drew = P5 at b3 b4 e5 e6 HB i6 i7 hHeld ⊢
      refine pq 1 64 2 HT_ ?_
      refine pq 2 65 6 HT_ ?_
      refine pq 3 66 14 HT_ ?_
      refine tq 0 63 15 HT_ HW_ hHeld ?_
      refine tq 4 67 31 HT_ HW_ hHeld ?_
      refine pq 5 68 63 HT_ ?_
      refine pq 6 69 127 HT_ ?_
      refine pu 7 70 255 HT_ ?_
      refine pu 8 71 511 HT_ ?_
      refine pu 9 72 1023 HT_ ?_
      refine pu 10 73 2047 HT_ ?_
      refine pu 11 74 4095 HT_ ?_
      refine pu 12 75 8191 HT_ ?_
      refine pq 13 76 16383 HT_ ?_
      refine done_ (done_of HT_.out (by kernel_rfl)) ?_
      have P6:=i8.out
      have P7:=m3.out
      have P8:=d7.out
      have P9:=e1.out
      have Q0:=d8.out
      have Q1:=e2.out
      have G5:P5.cell? ⟨d4,0,none⟩ = some (.int .i64 e8):=cz b3 0
      have G6:P5.cell? ⟨d4,1,none⟩ = some (.int .i64 e7):=cz b3 1
      have G7:=blk_frozen b3.out 0
      have G8:=blk_frozen b3.out 1
      try go_wp2
      refine bodyPost_ret (results_ctt rfl _ _ d4 51 #[.int .i64 b0,.int .i64 b1] (0,0) _ rfl (by (with_reducible repeat (first | refine blk_drewN ?_ _ | refine blk_drew ?_ | refine blk_alloc ?_ _));refine blk_put (cs:=#[.int .i64 b0,.int .i64 e7]) ?_ 1 _ rfl;(with_reducible repeat (first | refine blk_drewN ?_ _ | refine blk_drew ?_ | refine blk_alloc ?_ _));refine blk_put (cs:=#[.int .i64 e8,.int .i64 e7]) ?_ 0 _ rfl;(with_reducible repeat (first | refine blk_drewN ?_ _ | refine blk_drew ?_ | refine blk_alloc ?_ _));exact b3.out) Try.underlying51 rfl (by kernel_rfl)) rfl ?_
      exact ⟨by first | rfl | (simp [errW_none,errW_some] <;> rfl) | (simp [*,errW_none,errW_some] <;> rfl),bl HB⟩
     rw [if_neg z0] at H
     have z6:(!(h3 == ((rd_T23 l2 b0).f0)) || (!(h5 == ((rd_T23 l2 b0).f1)))) = false:=by simpa using z0
     clear z0
     by_cases z1:(!(h4 == ((rd_T23 l2 b1).f0)) || (!(h6 == ((rd_T23 l2 b1).f1)))) = true
     case neg =>
      rw [if_neg z1] at H
      have z8:(!(h4 == ((rd_T23 l2 b1).f0)) || (!(h6 == ((rd_T23 l2 b1).f1)))) = false:=by simpa using z1
      clear z1
      have H':=A_ H
      clear H
      try go_wp2
      replace b3:=kD b3
      replace b4:=kD b4
      replace HB:=bD HB
      have o7:0 ≤ (b0:Int):=of_decide_eq_true (by first | (with_reducible assumption) | assumption)
      have o8:b0 < (l2.length:Int):=of_decide_eq_true (by first | (with_reducible assumption) | assumption)
      obtain ⟨b2,s3,i0,i1⟩:=at_T23 t0.out b0 o7 o8
      have b7:=i1
      have b8:=i0
      cases s3
      replace i0:=(HB.out.cell (World.block_lt_of_cell? w _ i0)).trans i0
      replace i1:=(HB.out.cell (World.block_lt_of_cell? w _ i1)).trans i1
      replace o7:=eq_true o7
      replace o8:=eq_true o8
      have o9:0 ≤ (b1:Int):=of_decide_eq_true (by first | (with_reducible assumption) | assumption)
      have p0:b1 < (l2.length:Int):=of_decide_eq_true (by first | (with_reducible assumption) | assumption)
      obtain ⟨q9,s4,i2,i3⟩:=at_T23 t0.out b1 o9 p0
      have b9:=i3
      have c1:=i2
      obtain rfl:b2 = q9:=(by injection s4)
      replace i2:=(HB.out.cell (World.block_lt_of_cell? w _ i2)).trans i2
      replace i3:=(HB.out.cell (World.block_lt_of_cell? w _ i3)).trans i3
      replace o9:=eq_true o9
      replace p0:=eq_true p0
      have p1:0 ≤ (b0:Int):=of_decide_eq_true (by first | (with_reducible assumption) | assumption)
      have p2:b0 < (l0.length:Int):=of_decide_eq_true (by first | (with_reducible assumption) | assumption)
      obtain ⟨d6,s5,i4⟩:=Kd.at_int t6.out b0 p1 p2
      have d0:=i4
      cases s5
      replace i4:=(HB.out.cell (World.block_lt_of_cell? w _ i4)).trans i4
      replace p1:=eq_true p1
      replace p2:=eq_true p2
      have p3:0 ≤ (b1:Int):=of_decide_eq_true (by first | (with_reducible assumption) | assumption)
      have p4:b1 < (l0.length:Int):=of_decide_eq_true (by first | (with_reducible assumption) | assumption)
      obtain ⟨r0,s6,i5⟩:=Kd.at_int t6.out b1 p3 p4
      have d1:=i5
      obtain rfl:d6 = r0:=(by injection s6)
      replace i5:=(HB.out.cell (World.block_lt_of_cell? w _ i5)).trans i5
      replace p3:=eq_true p3
      replace p4:=eq_true p4
      refine start_ (n:=25) (S:=fun w'=>w'.cell? (b2.add ((b0).toNat * 2)) = some (.int .i64 ((rd_T23 l2 b0).f0)) ∧ w'.cell? ⟨(b2.add ((b0).toNat * 2)).block,(b2.add ((b0).toNat * 2)).off + 1,none⟩ = some (.int .i64 ((rd_T23 l2 b0).f1)) ∧ w'.cell? (b2.add ((b1).toNat * 2)) = some (.int .i64 ((rd_T23 l2 b1).f0)) ∧ w'.cell? ⟨(b2.add ((b1).toNat * 2)).block,(b2.add ((b1).toNat * 2)).off + 1,none⟩ = some (.int .i64 ((rd_T23 l2 b1).f1)) ∧ w'.cell? (d6.add (b0).toNat) = some (.int .i64 (rd l0 b0)) ∧ w'.cell? (d6.add (b1).toNat) = some (.int .i64 (rd l0 b1))) (ds:=[]) (ba 25 0) (by kernel_rfl) rfl rfl ⟨((HB.out.cell (World.block_lt_of_cell? w _ b8)).trans b8),((HB.out.cell (World.block_lt_of_cell? w _ b7)).trans b7),((HB.out.cell (World.block_lt_of_cell? w _ c1)).trans c1),((HB.out.cell (World.block_lt_of_cell? w _ b9)).trans b9),((HB.out.cell (World.block_lt_of_cell? w _ d0)).trans d0),((HB.out.cell (World.block_lt_of_cell? w _ d1)).trans d1)⟩ (fun hHeld=>?_);refine with_tabW shares_Agrees.tab12 shares_Agrees.bits12 (fun HT_ HW_=>?_)
      generalize wr.drew = V4 at b3 b4 HB i0 i1 i2 i3 i4 i5 hHeld ⊢
      refine pq 0 43 1 HT_ ?_
      refine pq 1 44 3 HT_ ?_
      refine pq 2 45 7 HT_ ?_
      refine pq 4 47 23 HT_ ?_
      refine pq 5 48 55 HT_ ?_
      refine pq 6 49 119 HT_ ?_
      refine pq 9 52 631 HT_ ?_
      refine pq 10 53 1655 HT_ ?_
      refine pq 11 54 3703 HT_ ?_
      refine pq 13 56 11895 HT_ ?_
      refine pq 14 57 28279 HT_ ?_
      refine pq 15 58 61047 HT_ ?_
      refine tq 3 46 61055 HT_ HW_ hHeld ?_
      refine tq 7 50 61183 HT_ HW_ hHeld ?_
      refine tq 12 55 65279 HT_ HW_ hHeld ?_
      refine tq 16 59 130815 HT_ HW_ hHeld ?_
      refine join_ (σ:=Nat × Nat) 2 (ba 25 8388607) (fun s_=>[(51,.agg #[.int .i64 h7,.int .i64 h8]),(60,.tuple #[.agg #[.int .i64 h3,.int .i64 h5],.agg #[.int .i64 h4,.int .i64 h6]]),(13,.pointer (some ⟨s_.1,0,none⟩)),(14,.pointer (some ⟨s_.2,0,none⟩)),(42,.tuple #[.agg #[.int .i64 h3,.int .i64 h5],.agg #[.int .i64 h4,.int .i64 h6]]),(61,.agg #[.int .i64 h3,.int .i64 h5]),(62,.agg #[.int .i64 h4,.int .i64 h6])]) (fun s_ w'=>(w'.cell? (b2.add ((b0).toNat * 2)) = some (.int .i64 ((rd_T23 l2 b0).f0)) ∧ w'.cell? ⟨(b2.add ((b0).toNat * 2)).block,(b2.add ((b0).toNat * 2)).off + 1,none⟩ = some (.int .i64 ((rd_T23 l2 b0).f1)) ∧ w'.cell? (b2.add ((b1).toNat * 2)) = some (.int .i64 ((rd_T23 l2 b1).f0)) ∧ w'.cell? ⟨(b2.add ((b1).toNat * 2)).block,(b2.add ((b1).toNat * 2)).off + 1,none⟩ = some (.int .i64 ((rd_T23 l2 b1).f1)) ∧ w'.cell? (d6.add (b0).toNat) = some (.int .i64 (rd l0 b0)) ∧ w'.cell? (d6.add (b1).toNat) = some (.int .i64 (rd l0 b1))) ∧ (w'.heap[d4]? = some (.cells #[.int .i64 e8,.int .i64 e7] 51 (0,0))) ∧ (w'.heap[d5]? = some (.cells #[.slice (some d6) l0.length c0,.int .i64 a1] 94 (0,0))) ∧ (w'.heap[s_.1]? = some (.cells #[.int .i64 0,.int .i64 0] 23 (0,0))) ∧ (w'.heap[s_.2]? = some (.cells #[.int .i64 0,.int .i64 0] 23 (0,0))) ∧ (w.heap.size ≤ s_.1) ∧ (w.heap.size ≤ s_.1) ∧ (d4 ≠ s_.1) ∧ (s_.1 ≠ d4) ∧ (d5 ≠ s_.1) ∧ (s_.1 ≠ d5) ∧ (s_.2 ≠ s_.1) ∧ (s_.1 ≠ s_.2) ∧ (w.heap.size ≤ s_.2) ∧ (w.heap.size ≤ s_.2) ∧ (d4 ≠ s_.2) ∧ (s_.2 ≠ d4) ∧ (d5 ≠ s_.2) ∧ (s_.2 ≠ d5) ∧ (Below w.heap.size w w')) ?_ ?_
      rotate_left
      ·intro h9
       refine join_ (σ:=Nat) 3 (ba 25 4194303) (fun s_=>[(51,.agg #[.int .i64 h7,.int .i64 h8]),(60,.tuple #[.agg #[.int .i64 h3,.int .i64 h5],.agg #[.int .i64 h4,.int .i64 h6]]),(13,.pointer (some ⟨s_,0,none⟩)),(42,.tuple #[.agg #[.int .i64 h3,.int .i64 h5],.agg #[.int .i64 h4,.int .i64 h6]]),(61,.agg #[.int .i64 h3,.int .i64 h5]),(62,.agg #[.int .i64 h4,.int .i64 h6])]) (fun s_ w'=>(w'.cell? (b2.add ((b0).toNat * 2)) = some (.int .i64 ((rd_T23 l2 b0).f0)) ∧ w'.cell? ⟨(b2.add ((b0).toNat * 2)).block,(b2.add ((b0).toNat * 2)).off + 1,none⟩ = some (.int .i64 ((rd_T23 l2 b0).f1)) ∧ w'.cell? (b2.add ((b1).toNat * 2)) = some (.int .i64 ((rd_T23 l2 b1).f0)) ∧ w'.cell? ⟨(b2.add ((b1).toNat * 2)).block,(b2.add ((b1).toNat * 2)).off + 1,none⟩ = some (.int .i64 ((rd_T23 l2 b1).f1)) ∧ w'.cell? (d6.add (b0).toNat) = some (.int .i64 (rd l0 b0)) ∧ w'.cell? (d6.add (b1).toNat) = some (.int .i64 (rd l0 b1))) ∧ (w'.heap[d4]? = some (.cells #[.int .i64 e8,.int .i64 e7] 51 (0,0))) ∧ (w'.heap[d5]? = some (.cells #[.slice (some d6) l0.length c0,.int .i64 a1] 94 (0,0))) ∧ (w'.heap[s_]? = some (.cells #[.int .i64 0,.int .i64 0] 23 (0,0))) ∧ (w.heap.size ≤ s_) ∧ (w.heap.size ≤ s_) ∧ (d4 ≠ s_) ∧ (s_ ≠ d4) ∧ (d5 ≠ s_) ∧ (s_ ≠ d5) ∧ (Below w.heap.size w w')) ?_ ?_
       rotate_left
       ·intro m4
        refine join_ (σ:=Nat) 3 (ba 25 6291455) (fun s_=>[(51,.agg #[.int .i64 h7,.int .i64 h8]),(60,.tuple #[.agg #[.int .i64 h3,.int .i64 h5],.agg #[.int .i64 h4,.int .i64 h6]]),(14,.pointer (some ⟨s_,0,none⟩)),(42,.tuple #[.agg #[.int .i64 h3,.int .i64 h5],.agg #[.int .i64 h4,.int .i64 h6]]),(61,.agg #[.int .i64 h3,.int .i64 h5]),(62,.agg #[.int .i64 h4,.int .i64 h6])]) (fun s_ w'=>(w'.cell? (b2.add ((b0).toNat * 2)) = some (.int .i64 ((rd_T23 l2 b0).f0)) ∧ w'.cell? ⟨(b2.add ((b0).toNat * 2)).block,(b2.add ((b0).toNat * 2)).off + 1,none⟩ = some (.int .i64 ((rd_T23 l2 b0).f1)) ∧ w'.cell? (b2.add ((b1).toNat * 2)) = some (.int .i64 ((rd_T23 l2 b1).f0)) ∧ w'.cell? ⟨(b2.add ((b1).toNat * 2)).block,(b2.add ((b1).toNat * 2)).off + 1,none⟩ = some (.int .i64 ((rd_T23 l2 b1).f1)) ∧ w'.cell? (d6.add (b0).toNat) = some (.int .i64 (rd l0 b0)) ∧ w'.cell? (d6.add (b1).toNat) = some (.int .i64 (rd l0 b1))) ∧ (w'.heap[d4]? = some (.cells #[.int .i64 e8,.int .i64 e7] 51 (0,0))) ∧ (w'.heap[d5]? = some (.cells #[.slice (some d6) l0.length c0,.int .i64 a1] 94 (0,0))) ∧ (w'.heap[s_]? = some (.cells #[.int .i64 0,.int .i64 0] 23 (0,0))) ∧ (w.heap.size ≤ s_) ∧ (w.heap.size ≤ s_) ∧ (d4 ≠ s_) ∧ (s_ ≠ d4) ∧ (d5 ≠ s_) ∧ (s_ ≠ d5) ∧ (Below w.heap.size w w')) ?_ ?_
        rotate_left
        ·intro m5
         refine join_ (σ:=Nat × Nat) 6 (ba 25 6422527) (fun s_=>[(51,.agg #[.int .i64 h7,.int .i64 h8]),(13,.pointer (some ⟨s_.1,0,none⟩)),(14,.pointer (some ⟨s_.2,0,none⟩))]) (fun s_ w'=>(w'.cell? (b2.add ((b0).toNat * 2)) = some (.int .i64 ((rd_T23 l2 b0).f0)) ∧ w'.cell? ⟨(b2.add ((b0).toNat * 2)).block,(b2.add ((b0).toNat * 2)).off + 1,none⟩ = some (.int .i64 ((rd_T23 l2 b0).f1)) ∧ w'.cell? (b2.add ((b1).toNat * 2)) = some (.int .i64 ((rd_T23 l2 b1).f0)) ∧ w'.cell? ⟨(b2.add ((b1).toNat * 2)).block,(b2.add ((b1).toNat * 2)).off + 1,none⟩ = some (.int .i64 ((rd_T23 l2 b1).f1)) ∧ w'.cell? (d6.add (b0).toNat) = some (.int .i64 (rd l0 b0)) ∧ w'.cell? (d6.add (b1).toNat) = some (.int .i64 (rd l0 b1))) ∧ (w'.heap[d4]? = some (.cells #[.int .i64 e8,.int .i64 e7] 51 (0,0))) ∧ (w'.heap[d5]? = some (.cells #[.slice (some d6) l0.length c0,.int .i64 a1] 94 (0,0))) ∧ (w'.heap[s_.1]? = some (.cells #[.int .i64 0,.int .i64 0] 23 (0,0))) ∧ (w'.heap[s_.2]? = some (.cells #[.int .i64 0,.int .i64 0] 23 (0,0))) ∧ (w.heap.size ≤ s_.1) ∧ (w.heap.size ≤ s_.1) ∧ (d4 ≠ s_.1) ∧ (s_.1 ≠ d4) ∧ (d5 ≠ s_.1) ∧ (s_.1 ≠ d5) ∧ (s_.2 ≠ s_.1) ∧ (s_.1 ≠ s_.2) ∧ (w.heap.size ≤ s_.2) ∧ (w.heap.size ≤ s_.2) ∧ (d4 ≠ s_.2) ∧ (s_.2 ≠ d4) ∧ (d5 ≠ s_.2) ∧ (s_.2 ≠ d5) ∧ (Below w.heap.size w w')) ?_ ?_
         rotate_left
         ·intro j8
          refine join_ (σ:=Unit) 4 (ba 25 2097151) (fun s_=>[(51,.agg #[.int .i64 h7,.int .i64 h8]),(60,.tuple #[.agg #[.int .i64 h3,.int .i64 h5],.agg #[.int .i64 h4,.int .i64 h6]]),(42,.tuple #[.agg #[.int .i64 h3,.int .i64 h5],.agg #[.int .i64 h4,.int .i64 h6]]),(61,.agg #[.int .i64 h3,.int .i64 h5]),(62,.agg #[.int .i64 h4,.int .i64 h6])]) (fun s_ w'=>(w'.cell? (b2.add ((b0).toNat * 2)) = some (.int .i64 ((rd_T23 l2 b0).f0)) ∧ w'.cell? ⟨(b2.add ((b0).toNat * 2)).block,(b2.add ((b0).toNat * 2)).off + 1,none⟩ = some (.int .i64 ((rd_T23 l2 b0).f1)) ∧ w'.cell? (b2.add ((b1).toNat * 2)) = some (.int .i64 ((rd_T23 l2 b1).f0)) ∧ w'.cell? ⟨(b2.add ((b1).toNat * 2)).block,(b2.add ((b1).toNat * 2)).off + 1,none⟩ = some (.int .i64 ((rd_T23 l2 b1).f1)) ∧ w'.cell? (d6.add (b0).toNat) = some (.int .i64 (rd l0 b0)) ∧ w'.cell? (d6.add (b1).toNat) = some (.int .i64 (rd l0 b1))) ∧ (w'.heap[d4]? = some (.cells #[.int .i64 e8,.int .i64 e7] 51 (0,0))) ∧ (w'.heap[d5]? = some (.cells #[.slice (some d6) l0.length c0,.int .i64 a1] 94 (0,0))) ∧ (Below w.heap.size w w')) ?_ ?_
          rotate_left
          ·intro r5
           refine join_ (σ:=Nat) 7 (ba 25 2228223) (fun s_=>[(51,.agg #[.int .i64 h7,.int .i64 h8]),(13,.pointer (some ⟨s_,0,none⟩))]) (fun s_ w'=>(w'.cell? (b2.add ((b0).toNat * 2)) = some (.int .i64 ((rd_T23 l2 b0).f0)) ∧ w'.cell? ⟨(b2.add ((b0).toNat * 2)).block,(b2.add ((b0).toNat * 2)).off + 1,none⟩ = some (.int .i64 ((rd_T23 l2 b0).f1)) ∧ w'.cell? (b2.add ((b1).toNat * 2)) = some (.int .i64 ((rd_T23 l2 b1).f0)) ∧ w'.cell? ⟨(b2.add ((b1).toNat * 2)).block,(b2.add ((b1).toNat * 2)).off + 1,none⟩ = some (.int .i64 ((rd_T23 l2 b1).f1)) ∧ w'.cell? (d6.add (b0).toNat) = some (.int .i64 (rd l0 b0)) ∧ w'.cell? (d6.add (b1).toNat) = some (.int .i64 (rd l0 b1))) ∧ (w'.heap[d4]? = some (.cells #[.int .i64 e8,.int .i64 e7] 51 (0,0))) ∧ (w'.heap[d5]? = some (.cells #[.slice (some d6) l0.length c0,.int .i64 a1] 94 (0,0))) ∧ (w'.heap[s_]? = some (.cells #[.int .i64 0,.int .i64 0] 23 (0,0))) ∧ (w.heap.size ≤ s_) ∧ (w.heap.size ≤ s_) ∧ (d4 ≠ s_) ∧ (s_ ≠ d4) ∧ (d5 ≠ s_) ∧ (s_ ≠ d5) ∧ (Below w.heap.size w w')) ?_ ?_
           rotate_left
           ·intro p5
            refine join_ (σ:=Nat) 7 (ba 25 4325375) (fun s_=>[(51,.agg #[.int .i64 h7,.int .i64 h8]),(14,.pointer (some ⟨s_,0,none⟩))]) (fun s_ w'=>(w'.cell? (b2.add ((b0).toNat * 2)) = some (.int .i64 ((rd_T23 l2 b0).f0)) ∧ w'.cell? ⟨(b2.add ((b0).toNat * 2)).block,(b2.add ((b0).toNat * 2)).off + 1,none⟩ = some (.int .i64 ((rd_T23 l2 b0).f1)) ∧ w'.cell? (b2.add ((b1).toNat * 2)) = some (.int .i64 ((rd_T23 l2 b1).f0)) ∧ w'.cell? ⟨(b2.add ((b1).toNat * 2)).block,(b2.add ((b1).toNat * 2)).off + 1,none⟩ = some (.int .i64 ((rd_T23 l2 b1).f1)) ∧ w'.cell? (d6.add (b0).toNat) = some (.int .i64 (rd l0 b0)) ∧ w'.cell? (d6.add (b1).toNat) = some (.int .i64 (rd l0 b1))) ∧ (w'.heap[d4]? = some (.cells #[.int .i64 e8,.int .i64 e7] 51 (0,0))) ∧ (w'.heap[d5]? = some (.cells #[.slice (some d6) l0.length c0,.int .i64 a1] 94 (0,0))) ∧ (w'.heap[s_]? = some (.cells #[.int .i64 0,.int .i64 0] 23 (0,0))) ∧ (w.heap.size ≤ s_) ∧ (w.heap.size ≤ s_) ∧ (d4 ≠ s_) ∧ (s_ ≠ d4) ∧ (d5 ≠ s_) ∧ (s_ ≠ d5) ∧ (Below w.heap.size w w')) ?_ ?_
            rotate_left
            ·intro p6
             refine join_ (σ:=Nat × Nat) 7 (ba 25 6422271) (fun s_=>[(13,.pointer (some ⟨s_.1,0,none⟩)),(14,.pointer (some ⟨s_.2,0,none⟩))]) (fun s_ w'=>(w'.cell? (b2.add ((b0).toNat * 2)) = some (.int .i64 ((rd_T23 l2 b0).f0)) ∧ w'.cell? ⟨(b2.add ((b0).toNat * 2)).block,(b2.add ((b0).toNat * 2)).off + 1,none⟩ = some (.int .i64 ((rd_T23 l2 b0).f1)) ∧ w'.cell? (b2.add ((b1).toNat * 2)) = some (.int .i64 ((rd_T23 l2 b1).f0)) ∧ w'.cell? ⟨(b2.add ((b1).toNat * 2)).block,(b2.add ((b1).toNat * 2)).off + 1,none⟩ = some (.int .i64 ((rd_T23 l2 b1).f1)) ∧ w'.cell? (d6.add (b0).toNat) = some (.int .i64 (rd l0 b0)) ∧ w'.cell? (d6.add (b1).toNat) = some (.int .i64 (rd l0 b1))) ∧ (w'.heap[d4]? = some (.cells #[.int .i64 e8,.int .i64 e7] 51 (0,0))) ∧ (w'.heap[d5]? = some (.cells #[.slice (some d6) l0.length c0,.int .i64 a1] 94 (0,0))) ∧ (w'.heap[s_.1]? = some (.cells #[.int .i64 0,.int .i64 0] 23 (0,0))) ∧ (w'.heap[s_.2]? = some (.cells #[.int .i64 0,.int .i64 0] 23 (0,0))) ∧ (w.heap.size ≤ s_.1) ∧ (w.heap.size ≤ s_.1) ∧ (d4 ≠ s_.1) ∧ (s_.1 ≠ d4) ∧ (d5 ≠ s_.1) ∧ (s_.1 ≠ d5) ∧ (s_.2 ≠ s_.1) ∧ (s_.1 ≠ s_.2) ∧ (w.heap.size ≤ s_.2) ∧ (w.heap.size ≤ s_.2) ∧ (d4 ≠ s_.2) ∧ (s_.2 ≠ d4) ∧ (d5 ≠ s_.2) ∧ (s_.2 ≠ d5) ∧ (Below w.heap.size w w')) ?_ ?_
             rotate_left
             ·intro o2
              refine join_ (σ:=Unit) 8 (ba 25 131071) (fun s_=>[(51,.agg #[.int .i64 h7,.int .i64 h8])]) (fun s_ w'=>(w'.cell? (b2.add ((b0).toNat * 2)) = some (.int .i64 ((rd_T23 l2 b0).f0)) ∧ w'.cell? ⟨(b2.add ((b0).toNat * 2)).block,(b2.add ((b0).toNat * 2)).off + 1,none⟩ = some (.int .i64 ((rd_T23 l2 b0).f1)) ∧ w'.cell? (b2.add ((b1).toNat * 2)) = some (.int .i64 ((rd_T23 l2 b1).f0)) ∧ w'.cell? ⟨(b2.add ((b1).toNat * 2)).block,(b2.add ((b1).toNat * 2)).off + 1,none⟩ = some (.int .i64 ((rd_T23 l2 b1).f1)) ∧ w'.cell? (d6.add (b0).toNat) = some (.int .i64 (rd l0 b0)) ∧ w'.cell? (d6.add (b1).toNat) = some (.int .i64 (rd l0 b1))) ∧ (w'.heap[d4]? = some (.cells #[.int .i64 e8,.int .i64 e7] 51 (0,0))) ∧ (w'.heap[d5]? = some (.cells #[.slice (some d6) l0.length c0,.int .i64 a1] 94 (0,0))) ∧ (Below w.heap.size w w')) ?_ ?_
              rotate_left
              ·intro z7
               refine join_ (σ:=Nat) 8 (ba 25 2227967) (fun s_=>[(13,.pointer (some ⟨s_,0,none⟩))]) (fun s_ w'=>(w'.cell? (b2.add ((b0).toNat * 2)) = some (.int .i64 ((rd_T23 l2 b0).f0)) ∧ w'.cell? ⟨(b2.add ((b0).toNat * 2)).block,(b2.add ((b0).toNat * 2)).off + 1,none⟩ = some (.int .i64 ((rd_T23 l2 b0).f1)) ∧ w'.cell? (b2.add ((b1).toNat * 2)) = some (.int .i64 ((rd_T23 l2 b1).f0)) ∧ w'.cell? ⟨(b2.add ((b1).toNat * 2)).block,(b2.add ((b1).toNat * 2)).off + 1,none⟩ = some (.int .i64 ((rd_T23 l2 b1).f1)) ∧ w'.cell? (d6.add (b0).toNat) = some (.int .i64 (rd l0 b0)) ∧ w'.cell? (d6.add (b1).toNat) = some (.int .i64 (rd l0 b1))) ∧ (w'.heap[d4]? = some (.cells #[.int .i64 e8,.int .i64 e7] 51 (0,0))) ∧ (w'.heap[d5]? = some (.cells #[.slice (some d6) l0.length c0,.int .i64 a1] 94 (0,0))) ∧ (w'.heap[s_]? = some (.cells #[.int .i64 0,.int .i64 0] 23 (0,0))) ∧ (w.heap.size ≤ s_) ∧ (w.heap.size ≤ s_) ∧ (d4 ≠ s_) ∧ (s_ ≠ d4) ∧ (d5 ≠ s_) ∧ (s_ ≠ d5) ∧ (Below w.heap.size w w')) ?_ ?_
               rotate_left
               ·intro t9
                refine join_ (σ:=Nat) 8 (ba 25 4325119) (fun s_=>[(14,.pointer (some ⟨s_,0,none⟩))]) (fun s_ w'=>(w'.cell? (b2.add ((b0).toNat * 2)) = some (.int .i64 ((rd_T23 l2 b0).f0)) ∧ w'.cell? ⟨(b2.add ((b0).toNat * 2)).block,(b2.add ((b0).toNat * 2)).off + 1,none⟩ = some (.int .i64 ((rd_T23 l2 b0).f1)) ∧ w'.cell? (b2.add ((b1).toNat * 2)) = some (.int .i64 ((rd_T23 l2 b1).f0)) ∧ w'.cell? ⟨(b2.add ((b1).toNat * 2)).block,(b2.add ((b1).toNat * 2)).off + 1,none⟩ = some (.int .i64 ((rd_T23 l2 b1).f1)) ∧ w'.cell? (d6.add (b0).toNat) = some (.int .i64 (rd l0 b0)) ∧ w'.cell? (d6.add (b1).toNat) = some (.int .i64 (rd l0 b1))) ∧ (w'.heap[d4]? = some (.cells #[.int .i64 e8,.int .i64 e7] 51 (0,0))) ∧ (w'.heap[d5]? = some (.cells #[.slice (some d6) l0.length c0,.int .i64 a1] 94 (0,0))) ∧ (w'.heap[s_]? = some (.cells #[.int .i64 0,.int .i64 0] 23 (0,0))) ∧ (w.heap.size ≤ s_) ∧ (w.heap.size ≤ s_) ∧ (d4 ≠ s_) ∧ (s_ ≠ d4) ∧ (d5 ≠ s_) ∧ (s_ ≠ d5) ∧ (Below w.heap.size w w')) ?_ ?_
                rotate_left
                ·intro x1
                 refine three_ (i:=8) (j:=21) (k:=22) (Ni:=some 51) (Nj:=some 13) (Nk:=some 14) (ba 25 131071) (ba 25 2227967) (ba 25 4325119) rfl rfl rfl rfl rfl rfl (three_of HT_.out (by kernel_rfl)) (by decide) (by decide) (by decide) (fun K hK=>?_) (fun K hK=>?_) (fun K hK=>?_)
                 ·skip
                  refine gq Try.func88 #[.agg #[.int .i64 ((rd_T23 l2 b0).f0),.int .i64 ((rd_T23 l2 b0).f1)],.agg #[.int .i64 ((rd_T23 l2 b1).f0),.int .i64 ((rd_T23 l2 b1).f1)]] ?_
                  with_reducible refine (shares_add.calls k2 ((rd_T23 l2 b0).f0) ((rd_T23 l2 b0).f1) ((rd_T23 l2 b1).f0) ((rd_T23 l2 b1).f1) h7 h8 _ t1.out).mono ?_
                  rintro e Q2 ⟨rfl,hb⟩
                  refine ⟨_,rfl,?_⟩
                  replace b3:=kB b3 hb
                  replace b4:=kB b4 hb
                  replace HB:=bB HB hb
                  (try clear hb)
                  refine hK.out _ _ ⟨((HB.out.cell (World.block_lt_of_cell? w _ b8)).trans b8),((HB.out.cell (World.block_lt_of_cell? w _ b7)).trans b7),((HB.out.cell (World.block_lt_of_cell? w _ c1)).trans c1),((HB.out.cell (World.block_lt_of_cell? w _ b9)).trans b9),((HB.out.cell (World.block_lt_of_cell? w _ d0)).trans d0),((HB.out.cell (World.block_lt_of_cell? w _ d1)).trans d1)⟩ (fun hHeld=>?_)
                  clear hK K
                  refine nq 51 ?_
                  exact norm_ (by first | (simp only [putAll,Act.put,List.setIfInBounds_toArray,List.set_cons_zero,List.set_cons_succ];done) | (simp only [putAll,Act.put,List.setIfInBounds_toArray,List.set_cons_zero,List.set_cons_succ];rfl)) (z7 () _ ⟨hHeld,(kb b3),(kb b4),(bl HB)⟩)
                 ·skip
                  refine box_step ?hg (N:=13) ?hd (cs:=#[.int .i64 0,.int .i64 0]) (t:=23) ?hr ?_;(case hd=>rfl);(case hg=>rfl);(case hr=>first | (go_simp;done) | (go_simp;rfl))
                  intro b5 hg Q2 hbox hb
                  have e5:=A_ hbox
                  have d2:=gw hg HB
                  have h1:=d2
                  have d7:=nl hg b3
                  have e1:=ng hg b3
                  have d9:=nl hg b4
                  have e3:=ng hg b4
                  replace b3:=kB b3 hb
                  replace b4:=kB b4 hb
                  replace HB:=bB HB hb
                  clear hb hbox hg
                  refine hK.out _ _ ⟨((HB.out.cell (World.block_lt_of_cell? w _ b8)).trans b8),((HB.out.cell (World.block_lt_of_cell? w _ b7)).trans b7),((HB.out.cell (World.block_lt_of_cell? w _ c1)).trans c1),((HB.out.cell (World.block_lt_of_cell? w _ b9)).trans b9),((HB.out.cell (World.block_lt_of_cell? w _ d0)).trans d0),((HB.out.cell (World.block_lt_of_cell? w _ d1)).trans d1)⟩ (fun hHeld=>?_)
                  clear hK K
                  refine nq 13 ?_
                  exact norm_ (by first | (simp only [putAll,Act.put,List.setIfInBounds_toArray,List.set_cons_zero,List.set_cons_succ];done) | (simp only [putAll,Act.put,List.setIfInBounds_toArray,List.set_cons_zero,List.set_cons_succ];rfl)) (t9 (b5) _ ⟨hHeld,(kb b3),(kb b4),(kb e5),d2.out,h1.out,d7.out,e1.out,d9.out,e3.out,(bl HB)⟩)
                 skip
                 refine box_step ?hg (N:=14) ?hd (cs:=#[.int .i64 0,.int .i64 0]) (t:=23) ?hr ?_;(case hd=>rfl);(case hg=>rfl);(case hr=>first | (go_simp;done) | (go_simp;rfl))
                 intro b6 hg Q2 hbox hb
                 have e6:=A_ hbox
                 have d3:=gw hg HB
                 have h2:=d3
                 have d8:=nl hg b3
                 have e2:=ng hg b3
                 have e0:=nl hg b4
                 have e4:=ng hg b4
                 replace b3:=kB b3 hb
                 replace b4:=kB b4 hb
                 replace HB:=bB HB hb
                 clear hb hbox hg
                 refine hK.out _ _ ⟨((HB.out.cell (World.block_lt_of_cell? w _ b8)).trans b8),((HB.out.cell (World.block_lt_of_cell? w _ b7)).trans b7),((HB.out.cell (World.block_lt_of_cell? w _ c1)).trans c1),((HB.out.cell (World.block_lt_of_cell? w _ b9)).trans b9),((HB.out.cell (World.block_lt_of_cell? w _ d0)).trans d0),((HB.out.cell (World.block_lt_of_cell? w _ d1)).trans d1)⟩ (fun hHeld=>?_)
                 clear hK K
                 refine nq 14 ?_
                 exact norm_ (by first | (simp only [putAll,Act.put,List.setIfInBounds_toArray,List.set_cons_zero,List.set_cons_succ];done) | (simp only [putAll,Act.put,List.setIfInBounds_toArray,List.set_cons_zero,List.set_cons_succ];rfl)) (x1 (b6) _ ⟨hHeld,(kb b3),(kb b4),(kb e6),d3.out,h2.out,d8.out,e2.out,e0.out,e4.out,(bl HB)⟩)
                skip
                rintro b6 q2 ⟨hS_,i9,j5,j7,j9,l5,l6,l7,l8,l9,m0⟩
                have e6:Aside0 (q2.heap[b6]? = some (.cells #[.int .i64 0,.int .i64 0] 23 (0,0))):=⟨j7⟩
                have d3:Aside0 (w.heap.size ≤ b6):=⟨j9⟩
                have h2:Aside0 (w.heap.size ≤ b6):=⟨l5⟩
                have d8:Aside0 (d4 ≠ b6):=⟨l6⟩
                have e2:Aside0 (b6 ≠ d4):=⟨l7⟩
                have e0:Aside0 (d5 ≠ b6):=⟨l8⟩
                have e4:Aside0 (b6 ≠ d5):=⟨l9⟩
                replace b3:Aside0 (q2.heap[d4]? = some (.cells #[.int .i64 e8,.int .i64 e7] 51 (0,0))):=⟨i9⟩
                replace b4:Aside0 (q2.heap[d5]? = some (.cells #[.slice (some d6) l0.length c0,.int .i64 a1] 94 (0,0))):=⟨j5⟩
                replace HB:Aside0 (Below w.heap.size w q2):=⟨m0⟩
                clear i9 j5 j7 j9 l5 l6 l7 l8 l9 m0
                have hHeld:q2.cell? (b2.add ((b0).toNat * 2)) = some (.int .i64 ((rd_T23 l2 b0).f0)) ∧ q2.cell? ⟨(b2.add ((b0).toNat * 2)).block,(b2.add ((b0).toNat * 2)).off + 1,none⟩ = some (.int .i64 ((rd_T23 l2 b0).f1)) ∧ q2.cell? (b2.add ((b1).toNat * 2)) = some (.int .i64 ((rd_T23 l2 b1).f0)) ∧ q2.cell? ⟨(b2.add ((b1).toNat * 2)).block,(b2.add ((b1).toNat * 2)).off + 1,none⟩ = some (.int .i64 ((rd_T23 l2 b1).f1)) ∧ q2.cell? (d6.add (b0).toNat) = some (.int .i64 (rd l0 b0)) ∧ q2.cell? (d6.add (b1).toNat) = some (.int .i64 (rd l0 b1)):=hS_
                refine norm_ (a':=?_) ?_ ?_
                rotate_left
                ·simp only [putAll,Act.put,List.setIfInBounds_toArray,List.set_cons_zero,List.set_cons_succ]
                 rfl
                refine two_ (i:=8) (j:=21) (Ni:=some 51) (Nj:=some 13) (ba 25 4325375) (ba 25 6422271) rfl rfl rfl rfl (two_of HT_.out (by kernel_rfl)) (by decide) (by decide) (fun K hK=>?_) (fun K hK=>?_)
                ·skip
                 refine gq Try.func88 #[.agg #[.int .i64 ((rd_T23 l2 b0).f0),.int .i64 ((rd_T23 l2 b0).f1)],.agg #[.int .i64 ((rd_T23 l2 b1).f0),.int .i64 ((rd_T23 l2 b1).f1)]] ?_
                 with_reducible refine (shares_add.calls k2 ((rd_T23 l2 b0).f0) ((rd_T23 l2 b0).f1) ((rd_T23 l2 b1).f0) ((rd_T23 l2 b1).f1) h7 h8 _ t1.out).mono ?_
                 rintro e n9 ⟨rfl,hb⟩
                 refine ⟨_,rfl,?_⟩
                 replace b3:=kB b3 hb
                 replace b4:=kB b4 hb
                 replace e6:=kB e6 hb
                 replace HB:=bB HB hb
                 (try clear hb)
                 refine hK.out _ _ ⟨((HB.out.cell (World.block_lt_of_cell? w _ b8)).trans b8),((HB.out.cell (World.block_lt_of_cell? w _ b7)).trans b7),((HB.out.cell (World.block_lt_of_cell? w _ c1)).trans c1),((HB.out.cell (World.block_lt_of_cell? w _ b9)).trans b9),((HB.out.cell (World.block_lt_of_cell? w _ d0)).trans d0),((HB.out.cell (World.block_lt_of_cell? w _ d1)).trans d1)⟩ (fun hHeld=>?_)
                 clear hK K
                 refine nq 51 ?_
                 exact norm_ (by first | (simp only [putAll,Act.put,List.setIfInBounds_toArray,List.set_cons_zero,List.set_cons_succ];done) | (simp only [putAll,Act.put,List.setIfInBounds_toArray,List.set_cons_zero,List.set_cons_succ];rfl)) (p6 (b6) _ ⟨hHeld,(kb b3),(kb b4),(kb e6),d3.out,h2.out,d8.out,e2.out,e0.out,e4.out,(bl HB)⟩)
                skip
                refine box_step ?hg (N:=13) ?hd (cs:=#[.int .i64 0,.int .i64 0]) (t:=23) ?hr ?_;(case hd=>rfl);(case hg=>rfl);(case hr=>first | (go_simp;done) | (go_simp;rfl))
                intro b5 hg n9 hbox hb
                have e5:=A_ hbox
                have d2:=gw hg HB
                have h1:=d2
                have d7:=nl hg b3
                have e1:=ng hg b3
                have d9:=nl hg b4
                have e3:=ng hg b4
                have e9:=nl hg e6
                have h0:=ng hg e6
                replace b3:=kB b3 hb
                replace b4:=kB b4 hb
                replace e6:=kB e6 hb
                replace HB:=bB HB hb
                clear hb hbox hg
                refine hK.out _ _ ⟨((HB.out.cell (World.block_lt_of_cell? w _ b8)).trans b8),((HB.out.cell (World.block_lt_of_cell? w _ b7)).trans b7),((HB.out.cell (World.block_lt_of_cell? w _ c1)).trans c1),((HB.out.cell (World.block_lt_of_cell? w _ b9)).trans b9),((HB.out.cell (World.block_lt_of_cell? w _ d0)).trans d0),((HB.out.cell (World.block_lt_of_cell? w _ d1)).trans d1)⟩ (fun hHeld=>?_)
                clear hK K
                refine nq 13 ?_
                exact norm_ (by first | (simp only [putAll,Act.put,List.setIfInBounds_toArray,List.set_cons_zero,List.set_cons_succ];done) | (simp only [putAll,Act.put,List.setIfInBounds_toArray,List.set_cons_zero,List.set_cons_succ];rfl)) (o2 (b5,b6) _ ⟨hHeld,(kb b3),(kb b4),(kb e5),(kb e6),d2.out,h1.out,d7.out,e1.out,d9.out,e3.out,e9.out,h0.out,d3.out,h2.out,d8.out,e2.out,e0.out,e4.out,(bl HB)⟩)
               skip
               rintro b5 q2 ⟨hS_,i9,j5,j7,j9,l5,l6,l7,l8,l9,m0⟩
               have e5:Aside0 (q2.heap[b5]? = some (.cells #[.int .i64 0,.int .i64 0] 23 (0,0))):=⟨j7⟩
               have d2:Aside0 (w.heap.size ≤ b5):=⟨j9⟩
               have h1:Aside0 (w.heap.size ≤ b5):=⟨l5⟩
               have d7:Aside0 (d4 ≠ b5):=⟨l6⟩
               have e1:Aside0 (b5 ≠ d4):=⟨l7⟩
               have d9:Aside0 (d5 ≠ b5):=⟨l8⟩
               have e3:Aside0 (b5 ≠ d5):=⟨l9⟩
               replace b3:Aside0 (q2.heap[d4]? = some (.cells #[.int .i64 e8,.int .i64 e7] 51 (0,0))):=⟨i9⟩
               replace b4:Aside0 (q2.heap[d5]? = some (.cells #[.slice (some d6) l0.length c0,.int .i64 a1] 94 (0,0))):=⟨j5⟩
               replace HB:Aside0 (Below w.heap.size w q2):=⟨m0⟩
               clear i9 j5 j7 j9 l5 l6 l7 l8 l9 m0
               have hHeld:q2.cell? (b2.add ((b0).toNat * 2)) = some (.int .i64 ((rd_T23 l2 b0).f0)) ∧ q2.cell? ⟨(b2.add ((b0).toNat * 2)).block,(b2.add ((b0).toNat * 2)).off + 1,none⟩ = some (.int .i64 ((rd_T23 l2 b0).f1)) ∧ q2.cell? (b2.add ((b1).toNat * 2)) = some (.int .i64 ((rd_T23 l2 b1).f0)) ∧ q2.cell? ⟨(b2.add ((b1).toNat * 2)).block,(b2.add ((b1).toNat * 2)).off + 1,none⟩ = some (.int .i64 ((rd_T23 l2 b1).f1)) ∧ q2.cell? (d6.add (b0).toNat) = some (.int .i64 (rd l0 b0)) ∧ q2.cell? (d6.add (b1).toNat) = some (.int .i64 (rd l0 b1)):=hS_
               refine norm_ (a':=?_) ?_ ?_
               rotate_left
               ·simp only [putAll,Act.put,List.setIfInBounds_toArray,List.set_cons_zero,List.set_cons_succ]
                rfl
               refine two_ (i:=8) (j:=22) (Ni:=some 51) (Nj:=some 14) (ba 25 2228223) (ba 25 6422271) rfl rfl rfl rfl (two_of HT_.out (by kernel_rfl)) (by decide) (by decide) (fun K hK=>?_) (fun K hK=>?_)
               ·skip
                refine gq Try.func88 #[.agg #[.int .i64 ((rd_T23 l2 b0).f0),.int .i64 ((rd_T23 l2 b0).f1)],.agg #[.int .i64 ((rd_T23 l2 b1).f0),.int .i64 ((rd_T23 l2 b1).f1)]] ?_
                with_reducible refine (shares_add.calls k2 ((rd_T23 l2 b0).f0) ((rd_T23 l2 b0).f1) ((rd_T23 l2 b1).f0) ((rd_T23 l2 b1).f1) h7 h8 _ t1.out).mono ?_
                rintro e n9 ⟨rfl,hb⟩
                refine ⟨_,rfl,?_⟩
                replace b3:=kB b3 hb
                replace b4:=kB b4 hb
                replace e5:=kB e5 hb
                replace HB:=bB HB hb
                (try clear hb)
                refine hK.out _ _ ⟨((HB.out.cell (World.block_lt_of_cell? w _ b8)).trans b8),((HB.out.cell (World.block_lt_of_cell? w _ b7)).trans b7),((HB.out.cell (World.block_lt_of_cell? w _ c1)).trans c1),((HB.out.cell (World.block_lt_of_cell? w _ b9)).trans b9),((HB.out.cell (World.block_lt_of_cell? w _ d0)).trans d0),((HB.out.cell (World.block_lt_of_cell? w _ d1)).trans d1)⟩ (fun hHeld=>?_)
                clear hK K
                refine nq 51 ?_
                exact norm_ (by first | (simp only [putAll,Act.put,List.setIfInBounds_toArray,List.set_cons_zero,List.set_cons_succ];done) | (simp only [putAll,Act.put,List.setIfInBounds_toArray,List.set_cons_zero,List.set_cons_succ];rfl)) (p5 (b5) _ ⟨hHeld,(kb b3),(kb b4),(kb e5),d2.out,h1.out,d7.out,e1.out,d9.out,e3.out,(bl HB)⟩)
               skip
               refine box_step ?hg (N:=14) ?hd (cs:=#[.int .i64 0,.int .i64 0]) (t:=23) ?hr ?_;(case hd=>rfl);(case hg=>rfl);(case hr=>first | (go_simp;done) | (go_simp;rfl))
               intro b6 hg n9 hbox hb
               have e6:=A_ hbox
               have d3:=gw hg HB
               have h2:=d3
               have d8:=nl hg b3
               have e2:=ng hg b3
               have e0:=nl hg b4
               have e4:=ng hg b4
               have h0:=nl hg e5
               have e9:=ng hg e5
               replace b3:=kB b3 hb
               replace b4:=kB b4 hb
               replace e5:=kB e5 hb
               replace HB:=bB HB hb
               clear hb hbox hg
               refine hK.out _ _ ⟨((HB.out.cell (World.block_lt_of_cell? w _ b8)).trans b8),((HB.out.cell (World.block_lt_of_cell? w _ b7)).trans b7),((HB.out.cell (World.block_lt_of_cell? w _ c1)).trans c1),((HB.out.cell (World.block_lt_of_cell? w _ b9)).trans b9),((HB.out.cell (World.block_lt_of_cell? w _ d0)).trans d0),((HB.out.cell (World.block_lt_of_cell? w _ d1)).trans d1)⟩ (fun hHeld=>?_)
               clear hK K
               refine nq 14 ?_
               exact norm_ (by first | (simp only [putAll,Act.put,List.setIfInBounds_toArray,List.set_cons_zero,List.set_cons_succ];done) | (simp only [putAll,Act.put,List.setIfInBounds_toArray,List.set_cons_zero,List.set_cons_succ];rfl)) (o2 (b5,b6) _ ⟨hHeld,(kb b3),(kb b4),(kb e5),(kb e6),d2.out,h1.out,d7.out,e1.out,d9.out,e3.out,e9.out,h0.out,d3.out,h2.out,d8.out,e2.out,e0.out,e4.out,(bl HB)⟩)
              skip
              rintro _ q2 ⟨hS_,i9,j5,j7⟩
              replace b3:Aside0 (q2.heap[d4]? = some (.cells #[.int .i64 e8,.int .i64 e7] 51 (0,0))):=⟨i9⟩
              replace b4:Aside0 (q2.heap[d5]? = some (.cells #[.slice (some d6) l0.length c0,.int .i64 a1] 94 (0,0))):=⟨j5⟩
              replace HB:Aside0 (Below w.heap.size w q2):=⟨j7⟩
              clear i9 j5 j7
              have hHeld:q2.cell? (b2.add ((b0).toNat * 2)) = some (.int .i64 ((rd_T23 l2 b0).f0)) ∧ q2.cell? ⟨(b2.add ((b0).toNat * 2)).block,(b2.add ((b0).toNat * 2)).off + 1,none⟩ = some (.int .i64 ((rd_T23 l2 b0).f1)) ∧ q2.cell? (b2.add ((b1).toNat * 2)) = some (.int .i64 ((rd_T23 l2 b1).f0)) ∧ q2.cell? ⟨(b2.add ((b1).toNat * 2)).block,(b2.add ((b1).toNat * 2)).off + 1,none⟩ = some (.int .i64 ((rd_T23 l2 b1).f1)) ∧ q2.cell? (d6.add (b0).toNat) = some (.int .i64 (rd l0 b0)) ∧ q2.cell? (d6.add (b1).toNat) = some (.int .i64 (rd l0 b1)):=hS_
              refine norm_ (a':=?_) ?_ ?_
              rotate_left
              ·simp only [putAll,Act.put,List.setIfInBounds_toArray,List.set_cons_zero,List.set_cons_succ]
               rfl
              refine three_ (i:=17) (j:=21) (k:=22) (Ni:=some 60) (Nj:=some 13) (Nk:=some 14) (ba 25 262143) (ba 25 2228223) (ba 25 4325375) rfl rfl rfl rfl rfl rfl (three_of HT_.out (by kernel_rfl)) (by decide) (by decide) (by decide) (fun K hK=>?_) (fun K hK=>?_) (fun K hK=>?_)
              ·skip
               refine gq Try.func63 #[.agg #[.int .i64 h7,.int .i64 h8],.int .i64 (rd l0 b0),.int .i64 (rd l0 b1)] ?_
               with_reducible refine (shares_garment.calls k2 h7 h8 (rd l0 b0) (rd l0 b1) h3 h5 h4 h6 _ t2.out).mono ?_
               rintro e n9 ⟨rfl,hb⟩
               refine ⟨_,rfl,?_⟩
               replace b3:=kB b3 hb
               replace b4:=kB b4 hb
               replace HB:=bB HB hb
               (try clear hb)
               refine hK.out _ _ ⟨((HB.out.cell (World.block_lt_of_cell? w _ b8)).trans b8),((HB.out.cell (World.block_lt_of_cell? w _ b7)).trans b7),((HB.out.cell (World.block_lt_of_cell? w _ c1)).trans c1),((HB.out.cell (World.block_lt_of_cell? w _ b9)).trans b9),((HB.out.cell (World.block_lt_of_cell? w _ d0)).trans d0),((HB.out.cell (World.block_lt_of_cell? w _ d1)).trans d1)⟩ (fun hHeld=>?_)
               clear hK K
               refine nq 60 ?_
               refine pq 18 42 524287 HT_ ?_
               refine pq 19 61 1048575 HT_ ?_
               refine pq 20 62 2097151 HT_ ?_
               exact norm_ (by first | (simp only [putAll,Act.put,List.setIfInBounds_toArray,List.set_cons_zero,List.set_cons_succ];done) | (simp only [putAll,Act.put,List.setIfInBounds_toArray,List.set_cons_zero,List.set_cons_succ];rfl)) (r5 () _ ⟨hHeld,(kb b3),(kb b4),(bl HB)⟩)
              ·skip
               refine box_step ?hg (N:=13) ?hd (cs:=#[.int .i64 0,.int .i64 0]) (t:=23) ?hr ?_;(case hd=>rfl);(case hg=>rfl);(case hr=>first | (go_simp;done) | (go_simp;rfl))
               intro b5 hg n9 hbox hb
               have e5:=A_ hbox
               have d2:=gw hg HB
               have h1:=d2
               have d7:=nl hg b3
               have e1:=ng hg b3
               have d9:=nl hg b4
               have e3:=ng hg b4
               replace b3:=kB b3 hb
               replace b4:=kB b4 hb
               replace HB:=bB HB hb
               clear hb hbox hg
               refine hK.out _ _ ⟨((HB.out.cell (World.block_lt_of_cell? w _ b8)).trans b8),((HB.out.cell (World.block_lt_of_cell? w _ b7)).trans b7),((HB.out.cell (World.block_lt_of_cell? w _ c1)).trans c1),((HB.out.cell (World.block_lt_of_cell? w _ b9)).trans b9),((HB.out.cell (World.block_lt_of_cell? w _ d0)).trans d0),((HB.out.cell (World.block_lt_of_cell? w _ d1)).trans d1)⟩ (fun hHeld=>?_)
               clear hK K
               refine nq 13 ?_
               exact norm_ (by first | (simp only [putAll,Act.put,List.setIfInBounds_toArray,List.set_cons_zero,List.set_cons_succ];done) | (simp only [putAll,Act.put,List.setIfInBounds_toArray,List.set_cons_zero,List.set_cons_succ];rfl)) (p5 (b5) _ ⟨hHeld,(kb b3),(kb b4),(kb e5),d2.out,h1.out,d7.out,e1.out,d9.out,e3.out,(bl HB)⟩)
              skip
              refine box_step ?hg (N:=14) ?hd (cs:=#[.int .i64 0,.int .i64 0]) (t:=23) ?hr ?_;(case hd=>rfl);(case hg=>rfl);(case hr=>first | (go_simp;done) | (go_simp;rfl))
              intro b6 hg n9 hbox hb
              have e6:=A_ hbox
              have d3:=gw hg HB
              have h2:=d3
              have d8:=nl hg b3
              have e2:=ng hg b3
              have e0:=nl hg b4
              have e4:=ng hg b4
              replace b3:=kB b3 hb
              replace b4:=kB b4 hb
              replace HB:=bB HB hb
              clear hb hbox hg
              refine hK.out _ _ ⟨((HB.out.cell (World.block_lt_of_cell? w _ b8)).trans b8),((HB.out.cell (World.block_lt_of_cell? w _ b7)).trans b7),((HB.out.cell (World.block_lt_of_cell? w _ c1)).trans c1),((HB.out.cell (World.block_lt_of_cell? w _ b9)).trans b9),((HB.out.cell (World.block_lt_of_cell? w _ d0)).trans d0),((HB.out.cell (World.block_lt_of_cell? w _ d1)).trans d1)⟩ (fun hHeld=>?_)
              clear hK K
              refine nq 14 ?_
              exact norm_ (by first | (simp only [putAll,Act.put,List.setIfInBounds_toArray,List.set_cons_zero,List.set_cons_succ];done) | (simp only [putAll,Act.put,List.setIfInBounds_toArray,List.set_cons_zero,List.set_cons_succ];rfl)) (p6 (b6) _ ⟨hHeld,(kb b3),(kb b4),(kb e6),d3.out,h2.out,d8.out,e2.out,e0.out,e4.out,(bl HB)⟩)
             skip
             rintro ⟨b5,b6⟩ n9 ⟨hS_,i9,j5,j7,j9,l5,l6,l7,l8,l9,m0,m7,m8,m9,n0,n1,n2,n3,n4,n5⟩
             have e5:Aside0 (n9.heap[b5]? = some (.cells #[.int .i64 0,.int .i64 0] 23 (0,0))):=⟨j7⟩
             have e6:Aside0 (n9.heap[b6]? = some (.cells #[.int .i64 0,.int .i64 0] 23 (0,0))):=⟨j9⟩
             have d2:Aside0 (w.heap.size ≤ b5):=⟨l5⟩
             have h1:Aside0 (w.heap.size ≤ b5):=⟨l6⟩
             have d7:Aside0 (d4 ≠ b5):=⟨l7⟩
             have e1:Aside0 (b5 ≠ d4):=⟨l8⟩
             have d9:Aside0 (d5 ≠ b5):=⟨l9⟩
             have e3:Aside0 (b5 ≠ d5):=⟨m0⟩
             have e9:Aside0 (b6 ≠ b5):=⟨m7⟩
             have h0:Aside0 (b5 ≠ b6):=⟨m8⟩
             have d3:Aside0 (w.heap.size ≤ b6):=⟨m9⟩
             have h2:Aside0 (w.heap.size ≤ b6):=⟨n0⟩
             have d8:Aside0 (d4 ≠ b6):=⟨n1⟩
             have e2:Aside0 (b6 ≠ d4):=⟨n2⟩
             have e0:Aside0 (d5 ≠ b6):=⟨n3⟩
             have e4:Aside0 (b6 ≠ d5):=⟨n4⟩
             replace b3:Aside0 (n9.heap[d4]? = some (.cells #[.int .i64 e8,.int .i64 e7] 51 (0,0))):=⟨i9⟩
             replace b4:Aside0 (n9.heap[d5]? = some (.cells #[.slice (some d6) l0.length c0,.int .i64 a1] 94 (0,0))):=⟨j5⟩
             replace HB:Aside0 (Below w.heap.size w n9):=⟨n5⟩
             clear i9 j5 j7 j9 l5 l6 l7 l8 l9 m0 m7 m8 m9 n0 n1 n2 n3 n4 n5
             have hHeld:n9.cell? (b2.add ((b0).toNat * 2)) = some (.int .i64 ((rd_T23 l2 b0).f0)) ∧ n9.cell? ⟨(b2.add ((b0).toNat * 2)).block,(b2.add ((b0).toNat * 2)).off + 1,none⟩ = some (.int .i64 ((rd_T23 l2 b0).f1)) ∧ n9.cell? (b2.add ((b1).toNat * 2)) = some (.int .i64 ((rd_T23 l2 b1).f0)) ∧ n9.cell? ⟨(b2.add ((b1).toNat * 2)).block,(b2.add ((b1).toNat * 2)).off + 1,none⟩ = some (.int .i64 ((rd_T23 l2 b1).f1)) ∧ n9.cell? (d6.add (b0).toNat) = some (.int .i64 (rd l0 b0)) ∧ n9.cell? (d6.add (b1).toNat) = some (.int .i64 (rd l0 b1)):=hS_
             refine norm_ (a':=?_) ?_ ?_
             rotate_left
             ·simp only [putAll,Act.put,List.setIfInBounds_toArray,List.set_cons_zero,List.set_cons_succ]
              rfl
             refine oq 8 51 6422527 HT_ (fun K hK=>?_)
             refine gq Try.func88 #[.agg #[.int .i64 ((rd_T23 l2 b0).f0),.int .i64 ((rd_T23 l2 b0).f1)],.agg #[.int .i64 ((rd_T23 l2 b1).f0),.int .i64 ((rd_T23 l2 b1).f1)]] ?_
             with_reducible refine (shares_add.calls k2 ((rd_T23 l2 b0).f0) ((rd_T23 l2 b0).f1) ((rd_T23 l2 b1).f0) ((rd_T23 l2 b1).f1) h7 h8 _ t1.out).mono ?_
             rintro e o4 ⟨rfl,hb⟩
             refine ⟨_,rfl,?_⟩
             replace b3:=kB b3 hb
             replace b4:=kB b4 hb
             replace e5:=kB e5 hb
             replace e6:=kB e6 hb
             replace HB:=bB HB hb
             (try clear hb)
             refine hK.out _ _ ⟨((HB.out.cell (World.block_lt_of_cell? w _ b8)).trans b8),((HB.out.cell (World.block_lt_of_cell? w _ b7)).trans b7),((HB.out.cell (World.block_lt_of_cell? w _ c1)).trans c1),((HB.out.cell (World.block_lt_of_cell? w _ b9)).trans b9),((HB.out.cell (World.block_lt_of_cell? w _ d0)).trans d0),((HB.out.cell (World.block_lt_of_cell? w _ d1)).trans d1)⟩ (fun hHeld=>?_)
             clear hK K
             refine nq 51 ?_
             exact norm_ (by first | (simp only [putAll,Act.put,List.setIfInBounds_toArray,List.set_cons_zero,List.set_cons_succ];done) | (simp only [putAll,Act.put,List.setIfInBounds_toArray,List.set_cons_zero,List.set_cons_succ];rfl)) (j8 (b5,b6) _ ⟨hHeld,(kb b3),(kb b4),(kb e5),(kb e6),d2.out,h1.out,d7.out,e1.out,d9.out,e3.out,e9.out,h0.out,d3.out,h2.out,d8.out,e2.out,e0.out,e4.out,(bl HB)⟩)
            skip
            rintro b6 n9 ⟨hS_,i9,j5,j7,j9,l5,l6,l7,l8,l9,m0⟩
            have e6:Aside0 (n9.heap[b6]? = some (.cells #[.int .i64 0,.int .i64 0] 23 (0,0))):=⟨j7⟩
            have d3:Aside0 (w.heap.size ≤ b6):=⟨j9⟩
            have h2:Aside0 (w.heap.size ≤ b6):=⟨l5⟩
            have d8:Aside0 (d4 ≠ b6):=⟨l6⟩
            have e2:Aside0 (b6 ≠ d4):=⟨l7⟩
            have e0:Aside0 (d5 ≠ b6):=⟨l8⟩
            have e4:Aside0 (b6 ≠ d5):=⟨l9⟩
            replace b3:Aside0 (n9.heap[d4]? = some (.cells #[.int .i64 e8,.int .i64 e7] 51 (0,0))):=⟨i9⟩
            replace b4:Aside0 (n9.heap[d5]? = some (.cells #[.slice (some d6) l0.length c0,.int .i64 a1] 94 (0,0))):=⟨j5⟩
            replace HB:Aside0 (Below w.heap.size w n9):=⟨m0⟩
            clear i9 j5 j7 j9 l5 l6 l7 l8 l9 m0
            have hHeld:n9.cell? (b2.add ((b0).toNat * 2)) = some (.int .i64 ((rd_T23 l2 b0).f0)) ∧ n9.cell? ⟨(b2.add ((b0).toNat * 2)).block,(b2.add ((b0).toNat * 2)).off + 1,none⟩ = some (.int .i64 ((rd_T23 l2 b0).f1)) ∧ n9.cell? (b2.add ((b1).toNat * 2)) = some (.int .i64 ((rd_T23 l2 b1).f0)) ∧ n9.cell? ⟨(b2.add ((b1).toNat * 2)).block,(b2.add ((b1).toNat * 2)).off + 1,none⟩ = some (.int .i64 ((rd_T23 l2 b1).f1)) ∧ n9.cell? (d6.add (b0).toNat) = some (.int .i64 (rd l0 b0)) ∧ n9.cell? (d6.add (b1).toNat) = some (.int .i64 (rd l0 b1)):=hS_
            refine norm_ (a':=?_) ?_ ?_
            rotate_left
            ·simp only [putAll,Act.put,List.setIfInBounds_toArray,List.set_cons_zero,List.set_cons_succ]
             rfl
            refine two_ (i:=17) (j:=21) (Ni:=some 60) (Nj:=some 13) (ba 25 4456447) (ba 25 6422527) rfl rfl rfl rfl (two_of HT_.out (by kernel_rfl)) (by decide) (by decide) (fun K hK=>?_) (fun K hK=>?_)
            ·skip
             refine gq Try.func63 #[.agg #[.int .i64 h7,.int .i64 h8],.int .i64 (rd l0 b0),.int .i64 (rd l0 b1)] ?_
             with_reducible refine (shares_garment.calls k2 h7 h8 (rd l0 b0) (rd l0 b1) h3 h5 h4 h6 _ t2.out).mono ?_
             rintro e o4 ⟨rfl,hb⟩
             refine ⟨_,rfl,?_⟩
             replace b3:=kB b3 hb
             replace b4:=kB b4 hb
             replace e6:=kB e6 hb
             replace HB:=bB HB hb
             (try clear hb)
             refine hK.out _ _ ⟨((HB.out.cell (World.block_lt_of_cell? w _ b8)).trans b8),((HB.out.cell (World.block_lt_of_cell? w _ b7)).trans b7),((HB.out.cell (World.block_lt_of_cell? w _ c1)).trans c1),((HB.out.cell (World.block_lt_of_cell? w _ b9)).trans b9),((HB.out.cell (World.block_lt_of_cell? w _ d0)).trans d0),((HB.out.cell (World.block_lt_of_cell? w _ d1)).trans d1)⟩ (fun hHeld=>?_)
             clear hK K
             refine nq 60 ?_
             refine pq 18 42 4718591 HT_ ?_
             refine pq 19 61 5242879 HT_ ?_
             refine pq 20 62 6291455 HT_ ?_
             exact norm_ (by first | (simp only [putAll,Act.put,List.setIfInBounds_toArray,List.set_cons_zero,List.set_cons_succ];done) | (simp only [putAll,Act.put,List.setIfInBounds_toArray,List.set_cons_zero,List.set_cons_succ];rfl)) (m5 (b6) _ ⟨hHeld,(kb b3),(kb b4),(kb e6),d3.out,h2.out,d8.out,e2.out,e0.out,e4.out,(bl HB)⟩)
            skip
            refine box_step ?hg (N:=13) ?hd (cs:=#[.int .i64 0,.int .i64 0]) (t:=23) ?hr ?_;(case hd=>rfl);(case hg=>rfl);(case hr=>first | (go_simp;done) | (go_simp;rfl))
            intro b5 hg o4 hbox hb
            have e5:=A_ hbox
            have d2:=gw hg HB
            have h1:=d2
            have d7:=nl hg b3
            have e1:=ng hg b3
            have d9:=nl hg b4
            have e3:=ng hg b4
            have e9:=nl hg e6
            have h0:=ng hg e6
            replace b3:=kB b3 hb
            replace b4:=kB b4 hb
            replace e6:=kB e6 hb
            replace HB:=bB HB hb
            clear hb hbox hg
            refine hK.out _ _ ⟨((HB.out.cell (World.block_lt_of_cell? w _ b8)).trans b8),((HB.out.cell (World.block_lt_of_cell? w _ b7)).trans b7),((HB.out.cell (World.block_lt_of_cell? w _ c1)).trans c1),((HB.out.cell (World.block_lt_of_cell? w _ b9)).trans b9),((HB.out.cell (World.block_lt_of_cell? w _ d0)).trans d0),((HB.out.cell (World.block_lt_of_cell? w _ d1)).trans d1)⟩ (fun hHeld=>?_)
            clear hK K
            refine nq 13 ?_
            exact norm_ (by first | (simp only [putAll,Act.put,List.setIfInBounds_toArray,List.set_cons_zero,List.set_cons_succ];done) | (simp only [putAll,Act.put,List.setIfInBounds_toArray,List.set_cons_zero,List.set_cons_succ];rfl)) (j8 (b5,b6) _ ⟨hHeld,(kb b3),(kb b4),(kb e5),(kb e6),d2.out,h1.out,d7.out,e1.out,d9.out,e3.out,e9.out,h0.out,d3.out,h2.out,d8.out,e2.out,e0.out,e4.out,(bl HB)⟩)
           skip
           rintro b5 n9 ⟨hS_,i9,j5,j7,j9,l5,l6,l7,l8,l9,m0⟩
           have e5:Aside0 (n9.heap[b5]? = some (.cells #[.int .i64 0,.int .i64 0] 23 (0,0))):=⟨j7⟩
           have d2:Aside0 (w.heap.size ≤ b5):=⟨j9⟩
           have h1:Aside0 (w.heap.size ≤ b5):=⟨l5⟩
           have d7:Aside0 (d4 ≠ b5):=⟨l6⟩
           have e1:Aside0 (b5 ≠ d4):=⟨l7⟩
           have d9:Aside0 (d5 ≠ b5):=⟨l8⟩
           have e3:Aside0 (b5 ≠ d5):=⟨l9⟩
           replace b3:Aside0 (n9.heap[d4]? = some (.cells #[.int .i64 e8,.int .i64 e7] 51 (0,0))):=⟨i9⟩
           replace b4:Aside0 (n9.heap[d5]? = some (.cells #[.slice (some d6) l0.length c0,.int .i64 a1] 94 (0,0))):=⟨j5⟩
           replace HB:Aside0 (Below w.heap.size w n9):=⟨m0⟩
           clear i9 j5 j7 j9 l5 l6 l7 l8 l9 m0
           have hHeld:n9.cell? (b2.add ((b0).toNat * 2)) = some (.int .i64 ((rd_T23 l2 b0).f0)) ∧ n9.cell? ⟨(b2.add ((b0).toNat * 2)).block,(b2.add ((b0).toNat * 2)).off + 1,none⟩ = some (.int .i64 ((rd_T23 l2 b0).f1)) ∧ n9.cell? (b2.add ((b1).toNat * 2)) = some (.int .i64 ((rd_T23 l2 b1).f0)) ∧ n9.cell? ⟨(b2.add ((b1).toNat * 2)).block,(b2.add ((b1).toNat * 2)).off + 1,none⟩ = some (.int .i64 ((rd_T23 l2 b1).f1)) ∧ n9.cell? (d6.add (b0).toNat) = some (.int .i64 (rd l0 b0)) ∧ n9.cell? (d6.add (b1).toNat) = some (.int .i64 (rd l0 b1)):=hS_
           refine norm_ (a':=?_) ?_ ?_
           rotate_left
           ·simp only [putAll,Act.put,List.setIfInBounds_toArray,List.set_cons_zero,List.set_cons_succ]
            rfl
           refine two_ (i:=17) (j:=22) (Ni:=some 60) (Nj:=some 14) (ba 25 2359295) (ba 25 6422527) rfl rfl rfl rfl (two_of HT_.out (by kernel_rfl)) (by decide) (by decide) (fun K hK=>?_) (fun K hK=>?_)
           ·skip
            refine gq Try.func63 #[.agg #[.int .i64 h7,.int .i64 h8],.int .i64 (rd l0 b0),.int .i64 (rd l0 b1)] ?_
            with_reducible refine (shares_garment.calls k2 h7 h8 (rd l0 b0) (rd l0 b1) h3 h5 h4 h6 _ t2.out).mono ?_
            rintro e o4 ⟨rfl,hb⟩
            refine ⟨_,rfl,?_⟩
            replace b3:=kB b3 hb
            replace b4:=kB b4 hb
            replace e5:=kB e5 hb
            replace HB:=bB HB hb
            (try clear hb)
            refine hK.out _ _ ⟨((HB.out.cell (World.block_lt_of_cell? w _ b8)).trans b8),((HB.out.cell (World.block_lt_of_cell? w _ b7)).trans b7),((HB.out.cell (World.block_lt_of_cell? w _ c1)).trans c1),((HB.out.cell (World.block_lt_of_cell? w _ b9)).trans b9),((HB.out.cell (World.block_lt_of_cell? w _ d0)).trans d0),((HB.out.cell (World.block_lt_of_cell? w _ d1)).trans d1)⟩ (fun hHeld=>?_)
            clear hK K
            refine nq 60 ?_
            refine pq 18 42 2621439 HT_ ?_
            refine pq 19 61 3145727 HT_ ?_
            refine pq 20 62 4194303 HT_ ?_
            exact norm_ (by first | (simp only [putAll,Act.put,List.setIfInBounds_toArray,List.set_cons_zero,List.set_cons_succ];done) | (simp only [putAll,Act.put,List.setIfInBounds_toArray,List.set_cons_zero,List.set_cons_succ];rfl)) (m4 (b5) _ ⟨hHeld,(kb b3),(kb b4),(kb e5),d2.out,h1.out,d7.out,e1.out,d9.out,e3.out,(bl HB)⟩)
           skip
           refine box_step ?hg (N:=14) ?hd (cs:=#[.int .i64 0,.int .i64 0]) (t:=23) ?hr ?_;(case hd=>rfl);(case hg=>rfl);(case hr=>first | (go_simp;done) | (go_simp;rfl))
           intro b6 hg o4 hbox hb
           have e6:=A_ hbox
           have d3:=gw hg HB
           have h2:=d3
           have d8:=nl hg b3
           have e2:=ng hg b3
           have e0:=nl hg b4
           have e4:=ng hg b4
           have h0:=nl hg e5
           have e9:=ng hg e5
           replace b3:=kB b3 hb
           replace b4:=kB b4 hb
           replace e5:=kB e5 hb
           replace HB:=bB HB hb
           clear hb hbox hg
           refine hK.out _ _ ⟨((HB.out.cell (World.block_lt_of_cell? w _ b8)).trans b8),((HB.out.cell (World.block_lt_of_cell? w _ b7)).trans b7),((HB.out.cell (World.block_lt_of_cell? w _ c1)).trans c1),((HB.out.cell (World.block_lt_of_cell? w _ b9)).trans b9),((HB.out.cell (World.block_lt_of_cell? w _ d0)).trans d0),((HB.out.cell (World.block_lt_of_cell? w _ d1)).trans d1)⟩ (fun hHeld=>?_)
           clear hK K
           refine nq 14 ?_
           exact norm_ (by first | (simp only [putAll,Act.put,List.setIfInBounds_toArray,List.set_cons_zero,List.set_cons_succ];done) | (simp only [putAll,Act.put,List.setIfInBounds_toArray,List.set_cons_zero,List.set_cons_succ];rfl)) (j8 (b5,b6) _ ⟨hHeld,(kb b3),(kb b4),(kb e5),(kb e6),d2.out,h1.out,d7.out,e1.out,d9.out,e3.out,e9.out,h0.out,d3.out,h2.out,d8.out,e2.out,e0.out,e4.out,(bl HB)⟩)
          skip
          rintro _ n9 ⟨hS_,i9,j5,j7⟩
          replace b3:Aside0 (n9.heap[d4]? = some (.cells #[.int .i64 e8,.int .i64 e7] 51 (0,0))):=⟨i9⟩
          replace b4:Aside0 (n9.heap[d5]? = some (.cells #[.slice (some d6) l0.length c0,.int .i64 a1] 94 (0,0))):=⟨j5⟩
          replace HB:Aside0 (Below w.heap.size w n9):=⟨j7⟩
          clear i9 j5 j7
          have hHeld:n9.cell? (b2.add ((b0).toNat * 2)) = some (.int .i64 ((rd_T23 l2 b0).f0)) ∧ n9.cell? ⟨(b2.add ((b0).toNat * 2)).block,(b2.add ((b0).toNat * 2)).off + 1,none⟩ = some (.int .i64 ((rd_T23 l2 b0).f1)) ∧ n9.cell? (b2.add ((b1).toNat * 2)) = some (.int .i64 ((rd_T23 l2 b1).f0)) ∧ n9.cell? ⟨(b2.add ((b1).toNat * 2)).block,(b2.add ((b1).toNat * 2)).off + 1,none⟩ = some (.int .i64 ((rd_T23 l2 b1).f1)) ∧ n9.cell? (d6.add (b0).toNat) = some (.int .i64 (rd l0 b0)) ∧ n9.cell? (d6.add (b1).toNat) = some (.int .i64 (rd l0 b1)):=hS_
          refine norm_ (a':=?_) ?_ ?_
          rotate_left
          ·simp only [putAll,Act.put,List.setIfInBounds_toArray,List.set_cons_zero,List.set_cons_succ]
           rfl
          refine two_ (i:=21) (j:=22) (Ni:=some 13) (Nj:=some 14) (ba 25 4194303) (ba 25 6291455) rfl rfl rfl rfl (two_of HT_.out (by kernel_rfl)) (by decide) (by decide) (fun K hK=>?_) (fun K hK=>?_)
          ·skip
           refine box_step ?hg (N:=13) ?hd (cs:=#[.int .i64 0,.int .i64 0]) (t:=23) ?hr ?_;(case hd=>rfl);(case hg=>rfl);(case hr=>first | (go_simp;done) | (go_simp;rfl))
           intro b5 hg o4 hbox hb
           have e5:=A_ hbox
           have d2:=gw hg HB
           have h1:=d2
           have d7:=nl hg b3
           have e1:=ng hg b3
           have d9:=nl hg b4
           have e3:=ng hg b4
           replace b3:=kB b3 hb
           replace b4:=kB b4 hb
           replace HB:=bB HB hb
           clear hb hbox hg
           refine hK.out _ _ ⟨((HB.out.cell (World.block_lt_of_cell? w _ b8)).trans b8),((HB.out.cell (World.block_lt_of_cell? w _ b7)).trans b7),((HB.out.cell (World.block_lt_of_cell? w _ c1)).trans c1),((HB.out.cell (World.block_lt_of_cell? w _ b9)).trans b9),((HB.out.cell (World.block_lt_of_cell? w _ d0)).trans d0),((HB.out.cell (World.block_lt_of_cell? w _ d1)).trans d1)⟩ (fun hHeld=>?_)
           clear hK K
           refine nq 13 ?_
           exact norm_ (by first | (simp only [putAll,Act.put,List.setIfInBounds_toArray,List.set_cons_zero,List.set_cons_succ];done) | (simp only [putAll,Act.put,List.setIfInBounds_toArray,List.set_cons_zero,List.set_cons_succ];rfl)) (m4 (b5) _ ⟨hHeld,(kb b3),(kb b4),(kb e5),d2.out,h1.out,d7.out,e1.out,d9.out,e3.out,(bl HB)⟩)
          skip
          refine box_step ?hg (N:=14) ?hd (cs:=#[.int .i64 0,.int .i64 0]) (t:=23) ?hr ?_;(case hd=>rfl);(case hg=>rfl);(case hr=>first | (go_simp;done) | (go_simp;rfl))
          intro b6 hg o4 hbox hb
          have e6:=A_ hbox
          have d3:=gw hg HB
          have h2:=d3
          have d8:=nl hg b3
          have e2:=ng hg b3
          have e0:=nl hg b4
          have e4:=ng hg b4
          replace b3:=kB b3 hb
          replace b4:=kB b4 hb
          replace HB:=bB HB hb
          clear hb hbox hg
          refine hK.out _ _ ⟨((HB.out.cell (World.block_lt_of_cell? w _ b8)).trans b8),((HB.out.cell (World.block_lt_of_cell? w _ b7)).trans b7),((HB.out.cell (World.block_lt_of_cell? w _ c1)).trans c1),((HB.out.cell (World.block_lt_of_cell? w _ b9)).trans b9),((HB.out.cell (World.block_lt_of_cell? w _ d0)).trans d0),((HB.out.cell (World.block_lt_of_cell? w _ d1)).trans d1)⟩ (fun hHeld=>?_)
          clear hK K
          refine nq 14 ?_
          exact norm_ (by first | (simp only [putAll,Act.put,List.setIfInBounds_toArray,List.set_cons_zero,List.set_cons_succ];done) | (simp only [putAll,Act.put,List.setIfInBounds_toArray,List.set_cons_zero,List.set_cons_succ];rfl)) (m5 (b6) _ ⟨hHeld,(kb b3),(kb b4),(kb e6),d3.out,h2.out,d8.out,e2.out,e0.out,e4.out,(bl HB)⟩)
         skip
         rintro ⟨b5,b6⟩ o4 ⟨hS_,i9,j5,j7,j9,l5,l6,l7,l8,l9,m0,m7,m8,m9,n0,n1,n2,n3,n4,n5⟩
         have e5:Aside0 (o4.heap[b5]? = some (.cells #[.int .i64 0,.int .i64 0] 23 (0,0))):=⟨j7⟩
         have e6:Aside0 (o4.heap[b6]? = some (.cells #[.int .i64 0,.int .i64 0] 23 (0,0))):=⟨j9⟩
         have d2:Aside0 (w.heap.size ≤ b5):=⟨l5⟩
         have h1:Aside0 (w.heap.size ≤ b5):=⟨l6⟩
         have d7:Aside0 (d4 ≠ b5):=⟨l7⟩
         have e1:Aside0 (b5 ≠ d4):=⟨l8⟩
         have d9:Aside0 (d5 ≠ b5):=⟨l9⟩
         have e3:Aside0 (b5 ≠ d5):=⟨m0⟩
         have e9:Aside0 (b6 ≠ b5):=⟨m7⟩
         have h0:Aside0 (b5 ≠ b6):=⟨m8⟩
         have d3:Aside0 (w.heap.size ≤ b6):=⟨m9⟩
         have h2:Aside0 (w.heap.size ≤ b6):=⟨n0⟩
         have d8:Aside0 (d4 ≠ b6):=⟨n1⟩
         have e2:Aside0 (b6 ≠ d4):=⟨n2⟩
         have e0:Aside0 (d5 ≠ b6):=⟨n3⟩
         have e4:Aside0 (b6 ≠ d5):=⟨n4⟩
         replace b3:Aside0 (o4.heap[d4]? = some (.cells #[.int .i64 e8,.int .i64 e7] 51 (0,0))):=⟨i9⟩
         replace b4:Aside0 (o4.heap[d5]? = some (.cells #[.slice (some d6) l0.length c0,.int .i64 a1] 94 (0,0))):=⟨j5⟩
         replace HB:Aside0 (Below w.heap.size w o4):=⟨n5⟩
         clear i9 j5 j7 j9 l5 l6 l7 l8 l9 m0 m7 m8 m9 n0 n1 n2 n3 n4 n5
         have hHeld:o4.cell? (b2.add ((b0).toNat * 2)) = some (.int .i64 ((rd_T23 l2 b0).f0)) ∧ o4.cell? ⟨(b2.add ((b0).toNat * 2)).block,(b2.add ((b0).toNat * 2)).off + 1,none⟩ = some (.int .i64 ((rd_T23 l2 b0).f1)) ∧ o4.cell? (b2.add ((b1).toNat * 2)) = some (.int .i64 ((rd_T23 l2 b1).f0)) ∧ o4.cell? ⟨(b2.add ((b1).toNat * 2)).block,(b2.add ((b1).toNat * 2)).off + 1,none⟩ = some (.int .i64 ((rd_T23 l2 b1).f1)) ∧ o4.cell? (d6.add (b0).toNat) = some (.int .i64 (rd l0 b0)) ∧ o4.cell? (d6.add (b1).toNat) = some (.int .i64 (rd l0 b1)):=hS_
         refine norm_ (a':=?_) ?_ ?_
         rotate_left
         ·simp only [putAll,Act.put,List.setIfInBounds_toArray,List.set_cons_zero,List.set_cons_succ]
          rfl
         refine oq 17 60 6553599 HT_ (fun K hK=>?_)
         refine gq Try.func63 #[.agg #[.int .i64 h7,.int .i64 h8],.int .i64 (rd l0 b0),.int .i64 (rd l0 b1)] ?_
         with_reducible refine (shares_garment.calls k2 h7 h8 (rd l0 b0) (rd l0 b1) h3 h5 h4 h6 _ t2.out).mono ?_
         rintro e q6 ⟨rfl,hb⟩
         refine ⟨_,rfl,?_⟩
         replace b3:=kB b3 hb
         replace b4:=kB b4 hb
         replace e5:=kB e5 hb
         replace e6:=kB e6 hb
         replace HB:=bB HB hb
         (try clear hb)
         refine hK.out _ _ ⟨((HB.out.cell (World.block_lt_of_cell? w _ b8)).trans b8),((HB.out.cell (World.block_lt_of_cell? w _ b7)).trans b7),((HB.out.cell (World.block_lt_of_cell? w _ c1)).trans c1),((HB.out.cell (World.block_lt_of_cell? w _ b9)).trans b9),((HB.out.cell (World.block_lt_of_cell? w _ d0)).trans d0),((HB.out.cell (World.block_lt_of_cell? w _ d1)).trans d1)⟩ (fun hHeld=>?_)
         clear hK K
         refine nq 60 ?_
         refine pq 18 42 6815743 HT_ ?_
         refine pq 19 61 7340031 HT_ ?_
         refine pq 20 62 8388607 HT_ ?_
         exact norm_ (by first | (simp only [putAll,Act.put,List.setIfInBounds_toArray,List.set_cons_zero,List.set_cons_succ];done) | (simp only [putAll,Act.put,List.setIfInBounds_toArray,List.set_cons_zero,List.set_cons_succ];rfl)) (h9 (b5,b6) _ ⟨hHeld,(kb b3),(kb b4),(kb e5),(kb e6),d2.out,h1.out,d7.out,e1.out,d9.out,e3.out,e9.out,h0.out,d3.out,h2.out,d8.out,e2.out,e0.out,e4.out,(bl HB)⟩)
        skip
        rintro b6 o4 ⟨hS_,i9,j5,j7,j9,l5,l6,l7,l8,l9,m0⟩
        have e6:Aside0 (o4.heap[b6]? = some (.cells #[.int .i64 0,.int .i64 0] 23 (0,0))):=⟨j7⟩
        have d3:Aside0 (w.heap.size ≤ b6):=⟨j9⟩
        have h2:Aside0 (w.heap.size ≤ b6):=⟨l5⟩
        have d8:Aside0 (d4 ≠ b6):=⟨l6⟩
        have e2:Aside0 (b6 ≠ d4):=⟨l7⟩
        have e0:Aside0 (d5 ≠ b6):=⟨l8⟩
        have e4:Aside0 (b6 ≠ d5):=⟨l9⟩
        replace b3:Aside0 (o4.heap[d4]? = some (.cells #[.int .i64 e8,.int .i64 e7] 51 (0,0))):=⟨i9⟩
        replace b4:Aside0 (o4.heap[d5]? = some (.cells #[.slice (some d6) l0.length c0,.int .i64 a1] 94 (0,0))):=⟨j5⟩
        replace HB:Aside0 (Below w.heap.size w o4):=⟨m0⟩
        clear i9 j5 j7 j9 l5 l6 l7 l8 l9 m0
        have hHeld:o4.cell? (b2.add ((b0).toNat * 2)) = some (.int .i64 ((rd_T23 l2 b0).f0)) ∧ o4.cell? ⟨(b2.add ((b0).toNat * 2)).block,(b2.add ((b0).toNat * 2)).off + 1,none⟩ = some (.int .i64 ((rd_T23 l2 b0).f1)) ∧ o4.cell? (b2.add ((b1).toNat * 2)) = some (.int .i64 ((rd_T23 l2 b1).f0)) ∧ o4.cell? ⟨(b2.add ((b1).toNat * 2)).block,(b2.add ((b1).toNat * 2)).off + 1,none⟩ = some (.int .i64 ((rd_T23 l2 b1).f1)) ∧ o4.cell? (d6.add (b0).toNat) = some (.int .i64 (rd l0 b0)) ∧ o4.cell? (d6.add (b1).toNat) = some (.int .i64 (rd l0 b1)):=hS_
        refine norm_ (a':=?_) ?_ ?_
        rotate_left
        ·simp only [putAll,Act.put,List.setIfInBounds_toArray,List.set_cons_zero,List.set_cons_succ]
         rfl
        refine oq 21 13 8388607 HT_ (fun K hK=>?_)
        refine box_step ?hg (N:=13) ?hd (cs:=#[.int .i64 0,.int .i64 0]) (t:=23) ?hr ?_;(case hd=>rfl);(case hg=>rfl);(case hr=>first | (go_simp;done) | (go_simp;rfl))
        intro b5 hg q6 hbox hb
        have e5:=A_ hbox
        have d2:=gw hg HB
        have h1:=d2
        have d7:=nl hg b3
        have e1:=ng hg b3
        have d9:=nl hg b4
        have e3:=ng hg b4
        have e9:=nl hg e6
        have h0:=ng hg e6
        replace b3:=kB b3 hb
        replace b4:=kB b4 hb
        replace e6:=kB e6 hb
        replace HB:=bB HB hb
        clear hb hbox hg
        refine hK.out _ _ ⟨((HB.out.cell (World.block_lt_of_cell? w _ b8)).trans b8),((HB.out.cell (World.block_lt_of_cell? w _ b7)).trans b7),((HB.out.cell (World.block_lt_of_cell? w _ c1)).trans c1),((HB.out.cell (World.block_lt_of_cell? w _ b9)).trans b9),((HB.out.cell (World.block_lt_of_cell? w _ d0)).trans d0),((HB.out.cell (World.block_lt_of_cell? w _ d1)).trans d1)⟩ (fun hHeld=>?_)
        clear hK K
        refine nq 13 ?_
        exact norm_ (by first | (simp only [putAll,Act.put,List.setIfInBounds_toArray,List.set_cons_zero,List.set_cons_succ];done) | (simp only [putAll,Act.put,List.setIfInBounds_toArray,List.set_cons_zero,List.set_cons_succ];rfl)) (h9 (b5,b6) _ ⟨hHeld,(kb b3),(kb b4),(kb e5),(kb e6),d2.out,h1.out,d7.out,e1.out,d9.out,e3.out,e9.out,h0.out,d3.out,h2.out,d8.out,e2.out,e0.out,e4.out,(bl HB)⟩)
       skip
       rintro b5 o4 ⟨hS_,i9,j5,j7,j9,l5,l6,l7,l8,l9,m0⟩
       have e5:Aside0 (o4.heap[b5]? = some (.cells #[.int .i64 0,.int .i64 0] 23 (0,0))):=⟨j7⟩
       have d2:Aside0 (w.heap.size ≤ b5):=⟨j9⟩
       have h1:Aside0 (w.heap.size ≤ b5):=⟨l5⟩
       have d7:Aside0 (d4 ≠ b5):=⟨l6⟩
       have e1:Aside0 (b5 ≠ d4):=⟨l7⟩
       have d9:Aside0 (d5 ≠ b5):=⟨l8⟩
       have e3:Aside0 (b5 ≠ d5):=⟨l9⟩
       replace b3:Aside0 (o4.heap[d4]? = some (.cells #[.int .i64 e8,.int .i64 e7] 51 (0,0))):=⟨i9⟩
       replace b4:Aside0 (o4.heap[d5]? = some (.cells #[.slice (some d6) l0.length c0,.int .i64 a1] 94 (0,0))):=⟨j5⟩
       replace HB:Aside0 (Below w.heap.size w o4):=⟨m0⟩
       clear i9 j5 j7 j9 l5 l6 l7 l8 l9 m0
       have hHeld:o4.cell? (b2.add ((b0).toNat * 2)) = some (.int .i64 ((rd_T23 l2 b0).f0)) ∧ o4.cell? ⟨(b2.add ((b0).toNat * 2)).block,(b2.add ((b0).toNat * 2)).off + 1,none⟩ = some (.int .i64 ((rd_T23 l2 b0).f1)) ∧ o4.cell? (b2.add ((b1).toNat * 2)) = some (.int .i64 ((rd_T23 l2 b1).f0)) ∧ o4.cell? ⟨(b2.add ((b1).toNat * 2)).block,(b2.add ((b1).toNat * 2)).off + 1,none⟩ = some (.int .i64 ((rd_T23 l2 b1).f1)) ∧ o4.cell? (d6.add (b0).toNat) = some (.int .i64 (rd l0 b0)) ∧ o4.cell? (d6.add (b1).toNat) = some (.int .i64 (rd l0 b1)):=hS_
       refine norm_ (a':=?_) ?_ ?_
       rotate_left
       ·simp only [putAll,Act.put,List.setIfInBounds_toArray,List.set_cons_zero,List.set_cons_succ]
        rfl
       refine oq 22 14 8388607 HT_ (fun K hK=>?_)
       refine box_step ?hg (N:=14) ?hd (cs:=#[.int .i64 0,.int .i64 0]) (t:=23) ?hr ?_;(case hd=>rfl);(case hg=>rfl);(case hr=>first | (go_simp;done) | (go_simp;rfl))
       intro b6 hg q6 hbox hb
       have e6:=A_ hbox
       have d3:=gw hg HB
       have h2:=d3
       have d8:=nl hg b3
       have e2:=ng hg b3
       have e0:=nl hg b4
       have e4:=ng hg b4
       have h0:=nl hg e5
       have e9:=ng hg e5
       replace b3:=kB b3 hb
       replace b4:=kB b4 hb
       replace e5:=kB e5 hb
       replace HB:=bB HB hb
       clear hb hbox hg
       refine hK.out _ _ ⟨((HB.out.cell (World.block_lt_of_cell? w _ b8)).trans b8),((HB.out.cell (World.block_lt_of_cell? w _ b7)).trans b7),((HB.out.cell (World.block_lt_of_cell? w _ c1)).trans c1),((HB.out.cell (World.block_lt_of_cell? w _ b9)).trans b9),((HB.out.cell (World.block_lt_of_cell? w _ d0)).trans d0),((HB.out.cell (World.block_lt_of_cell? w _ d1)).trans d1)⟩ (fun hHeld=>?_)
       clear hK K
       refine nq 14 ?_
       exact norm_ (by first | (simp only [putAll,Act.put,List.setIfInBounds_toArray,List.set_cons_zero,List.set_cons_succ];done) | (simp only [putAll,Act.put,List.setIfInBounds_toArray,List.set_cons_zero,List.set_cons_succ];rfl)) (h9 (b5,b6) _ ⟨hHeld,(kb b3),(kb b4),(kb e5),(kb e6),d2.out,h1.out,d7.out,e1.out,d9.out,e3.out,e9.out,h0.out,d3.out,h2.out,d8.out,e2.out,e0.out,e4.out,(bl HB)⟩)
      rintro ⟨b5,b6⟩ q6 ⟨hS_,i9,j5,j7,j9,l5,l6,l7,l8,l9,m0,m7,m8,m9,n0,n1,n2,n3,n4,n5⟩
      have e5:Aside0 (q6.heap[b5]? = some (.cells #[.int .i64 0,.int .i64 0] 23 (0,0))):=⟨j7⟩
      have e6:Aside0 (q6.heap[b6]? = some (.cells #[.int .i64 0,.int .i64 0] 23 (0,0))):=⟨j9⟩
      have d2:Aside0 (w.heap.size ≤ b5):=⟨l5⟩
      have h1:Aside0 (w.heap.size ≤ b5):=⟨l6⟩
      have d7:Aside0 (d4 ≠ b5):=⟨l7⟩
      have e1:Aside0 (b5 ≠ d4):=⟨l8⟩
      have d9:Aside0 (d5 ≠ b5):=⟨l9⟩
      have e3:Aside0 (b5 ≠ d5):=⟨m0⟩
      have e9:Aside0 (b6 ≠ b5):=⟨m7⟩
      have h0:Aside0 (b5 ≠ b6):=⟨m8⟩
      have d3:Aside0 (w.heap.size ≤ b6):=⟨m9⟩
      have h2:Aside0 (w.heap.size ≤ b6):=⟨n0⟩
      have d8:Aside0 (d4 ≠ b6):=⟨n1⟩
      have e2:Aside0 (b6 ≠ d4):=⟨n2⟩
      have e0:Aside0 (d5 ≠ b6):=⟨n3⟩
      have e4:Aside0 (b6 ≠ d5):=⟨n4⟩
      replace b3:Aside0 (q6.heap[d4]? = some (.cells #[.int .i64 e8,.int .i64 e7] 51 (0,0))):=⟨i9⟩
      replace b4:Aside0 (q6.heap[d5]? = some (.cells #[.slice (some d6) l0.length c0,.int .i64 a1] 94 (0,0))):=⟨j5⟩
      replace HB:Aside0 (Below w.heap.size w q6):=⟨n5⟩
      clear i9 j5 j7 j9 l5 l6 l7 l8 l9 m0 m7 m8 m9 n0 n1 n2 n3 n4 n5
      have hHeld:q6.cell? (b2.add ((b0).toNat * 2)) = some (.int .i64 ((rd_T23 l2 b0).f0)) ∧ q6.cell? ⟨(b2.add ((b0).toNat * 2)).block,(b2.add ((b0).toNat * 2)).off + 1,none⟩ = some (.int .i64 ((rd_T23 l2 b0).f1)) ∧ q6.cell? (b2.add ((b1).toNat * 2)) = some (.int .i64 ((rd_T23 l2 b1).f0)) ∧ q6.cell? ⟨(b2.add ((b1).toNat * 2)).block,(b2.add ((b1).toNat * 2)).off + 1,none⟩ = some (.int .i64 ((rd_T23 l2 b1).f1)) ∧ q6.cell? (d6.add (b0).toNat) = some (.int .i64 (rd l0 b0)) ∧ q6.cell? (d6.add (b1).toNat) = some (.int .i64 (rd l0 b1)):=hS_
      refine norm_ (a':=?_) ?_ ?_
      rotate_left
      ·simp only [putAll,Act.put,List.setIfInBounds_toArray,List.set_cons_zero,List.set_cons_succ]
       rfl
      refine one_ (i:=23) (N:=none) (ba 25 16777215) rfl rfl (one_of HT_.out (by kernel_rfl)) (by decide) (fun K hK=>?_)
      have S9:q6.cell? ⟨b5,0,none⟩ = some (.int .i64 0):=cz e5 0
      have Q3:=blk_frozen e5.out 0
      have G9:=d7.out
      have H0:=d9.out
      have H1:=e9.out
      have H2:=e1.out
      have H3:=e3.out
      have H4:=h0.out
      have T0:q6.cell? ⟨b5,1,none⟩ = some (.int .i64 0):=cz e5 1
      have Q4:=blk_frozen e5.out 1
      have H5:=d7.out
      have H6:=d9.out
      have H7:=e9.out
      have H8:=e1.out
      have H9:=e3.out
      have I0:=h0.out
      refine skip_ (w1:=?_) (by rfl) rfl ?_ ?_
      rotate_left
      ·go_simp
       rfl
      refine hK.out _ _ ⟨((cell_far (p:=⟨b5,_,none⟩) (by first | exact Nat.ne_of_lt (Nat.lt_of_lt_of_le (by have:=World.block_lt_of_cell? _ _ b8;first | rwa [add_block] at this | exact this) d2.out) | (rw [add_block];exact Nat.ne_of_lt (Nat.lt_of_lt_of_le (by have:=World.block_lt_of_cell? _ _ b8;first | rwa [add_block] at this | exact this) d2.out)) | (show (Addr.add _ _).block ≠ _;rw [add_block];exact Nat.ne_of_lt (Nat.lt_of_lt_of_le (by have:=World.block_lt_of_cell? _ _ b8;first | rwa [add_block] at this | exact this) d2.out)) | (dsimp only;exact Nat.ne_of_lt (Nat.lt_of_lt_of_le (by have:=World.block_lt_of_cell? _ _ b8;first | rwa [add_block] at this | exact this) d2.out))) _).trans (((cell_far (p:=⟨b5,_,none⟩) (by first | exact Nat.ne_of_lt (Nat.lt_of_lt_of_le (by have:=World.block_lt_of_cell? _ _ b8;first | rwa [add_block] at this | exact this) d2.out) | (rw [add_block];exact Nat.ne_of_lt (Nat.lt_of_lt_of_le (by have:=World.block_lt_of_cell? _ _ b8;first | rwa [add_block] at this | exact this) d2.out)) | (show (Addr.add _ _).block ≠ _;rw [add_block];exact Nat.ne_of_lt (Nat.lt_of_lt_of_le (by have:=World.block_lt_of_cell? _ _ b8;first | rwa [add_block] at this | exact this) d2.out)) | (dsimp only;exact Nat.ne_of_lt (Nat.lt_of_lt_of_le (by have:=World.block_lt_of_cell? _ _ b8;first | rwa [add_block] at this | exact this) d2.out))) _).trans (hHeld.1)))),((cell_far (p:=⟨b5,_,none⟩) (by first | exact Nat.ne_of_lt (Nat.lt_of_lt_of_le (by have:=World.block_lt_of_cell? _ _ b7;first | rwa [add_block] at this | exact this) d2.out) | (rw [add_block];exact Nat.ne_of_lt (Nat.lt_of_lt_of_le (by have:=World.block_lt_of_cell? _ _ b7;first | rwa [add_block] at this | exact this) d2.out)) | (show (Addr.add _ _).block ≠ _;rw [add_block];exact Nat.ne_of_lt (Nat.lt_of_lt_of_le (by have:=World.block_lt_of_cell? _ _ b7;first | rwa [add_block] at this | exact this) d2.out)) | (dsimp only;exact Nat.ne_of_lt (Nat.lt_of_lt_of_le (by have:=World.block_lt_of_cell? _ _ b7;first | rwa [add_block] at this | exact this) d2.out))) _).trans (((cell_far (p:=⟨b5,_,none⟩) (by first | exact Nat.ne_of_lt (Nat.lt_of_lt_of_le (by have:=World.block_lt_of_cell? _ _ b7;first | rwa [add_block] at this | exact this) d2.out) | (rw [add_block];exact Nat.ne_of_lt (Nat.lt_of_lt_of_le (by have:=World.block_lt_of_cell? _ _ b7;first | rwa [add_block] at this | exact this) d2.out)) | (show (Addr.add _ _).block ≠ _;rw [add_block];exact Nat.ne_of_lt (Nat.lt_of_lt_of_le (by have:=World.block_lt_of_cell? _ _ b7;first | rwa [add_block] at this | exact this) d2.out)) | (dsimp only;exact Nat.ne_of_lt (Nat.lt_of_lt_of_le (by have:=World.block_lt_of_cell? _ _ b7;first | rwa [add_block] at this | exact this) d2.out))) _).trans (hHeld.2.1)))),((cell_far (p:=⟨b5,_,none⟩) (by first | exact Nat.ne_of_lt (Nat.lt_of_lt_of_le (by have:=World.block_lt_of_cell? _ _ c1;first | rwa [add_block] at this | exact this) d2.out) | (rw [add_block];exact Nat.ne_of_lt (Nat.lt_of_lt_of_le (by have:=World.block_lt_of_cell? _ _ c1;first | rwa [add_block] at this | exact this) d2.out)) | (show (Addr.add _ _).block ≠ _;rw [add_block];exact Nat.ne_of_lt (Nat.lt_of_lt_of_le (by have:=World.block_lt_of_cell? _ _ c1;first | rwa [add_block] at this | exact this) d2.out)) | (dsimp only;exact Nat.ne_of_lt (Nat.lt_of_lt_of_le (by have:=World.block_lt_of_cell? _ _ c1;first | rwa [add_block] at this | exact this) d2.out))) _).trans (((cell_far (p:=⟨b5,_,none⟩) (by first | exact Nat.ne_of_lt (Nat.lt_of_lt_of_le (by have:=World.block_lt_of_cell? _ _ c1;first | rwa [add_block] at this | exact this) d2.out) | (rw [add_block];exact Nat.ne_of_lt (Nat.lt_of_lt_of_le (by have:=World.block_lt_of_cell? _ _ c1;first | rwa [add_block] at this | exact this) d2.out)) | (show (Addr.add _ _).block ≠ _;rw [add_block];exact Nat.ne_of_lt (Nat.lt_of_lt_of_le (by have:=World.block_lt_of_cell? _ _ c1;first | rwa [add_block] at this | exact this) d2.out)) | (dsimp only;exact Nat.ne_of_lt (Nat.lt_of_lt_of_le (by have:=World.block_lt_of_cell? _ _ c1;first | rwa [add_block] at this | exact this) d2.out))) _).trans (hHeld.2.2.1)))),((cell_far (p:=⟨b5,_,none⟩) (by first | exact Nat.ne_of_lt (Nat.lt_of_lt_of_le (by have:=World.block_lt_of_cell? _ _ b9;first | rwa [add_block] at this | exact this) d2.out) | (rw [add_block];exact Nat.ne_of_lt (Nat.lt_of_lt_of_le (by have:=World.block_lt_of_cell? _ _ b9;first | rwa [add_block] at this | exact this) d2.out)) | (show (Addr.add _ _).block ≠ _;rw [add_block];exact Nat.ne_of_lt (Nat.lt_of_lt_of_le (by have:=World.block_lt_of_cell? _ _ b9;first | rwa [add_block] at this | exact this) d2.out)) | (dsimp only;exact Nat.ne_of_lt (Nat.lt_of_lt_of_le (by have:=World.block_lt_of_cell? _ _ b9;first | rwa [add_block] at this | exact this) d2.out))) _).trans (((cell_far (p:=⟨b5,_,none⟩) (by first | exact Nat.ne_of_lt (Nat.lt_of_lt_of_le (by have:=World.block_lt_of_cell? _ _ b9;first | rwa [add_block] at this | exact this) d2.out) | (rw [add_block];exact Nat.ne_of_lt (Nat.lt_of_lt_of_le (by have:=World.block_lt_of_cell? _ _ b9;first | rwa [add_block] at this | exact this) d2.out)) | (show (Addr.add _ _).block ≠ _;rw [add_block];exact Nat.ne_of_lt (Nat.lt_of_lt_of_le (by have:=World.block_lt_of_cell? _ _ b9;first | rwa [add_block] at this | exact this) d2.out)) | (dsimp only;exact Nat.ne_of_lt (Nat.lt_of_lt_of_le (by have:=World.block_lt_of_cell? _ _ b9;first | rwa [add_block] at this | exact this) d2.out))) _).trans (hHeld.2.2.2.1)))),((cell_far (p:=⟨b5,_,none⟩) (by first | exact Nat.ne_of_lt (Nat.lt_of_lt_of_le (by have:=World.block_lt_of_cell? _ _ d0;first | rwa [add_block] at this | exact this) d2.out) | (rw [add_block];exact Nat.ne_of_lt (Nat.lt_of_lt_of_le (by have:=World.block_lt_of_cell? _ _ d0;first | rwa [add_block] at this | exact this) d2.out)) | (show (Addr.add _ _).block ≠ _;rw [add_block];exact Nat.ne_of_lt (Nat.lt_of_lt_of_le (by have:=World.block_lt_of_cell? _ _ d0;first | rwa [add_block] at this | exact this) d2.out)) | (dsimp only;exact Nat.ne_of_lt (Nat.lt_of_lt_of_le (by have:=World.block_lt_of_cell? _ _ d0;first | rwa [add_block] at this | exact this) d2.out))) _).trans (((cell_far (p:=⟨b5,_,none⟩) (by first | exact Nat.ne_of_lt (Nat.lt_of_lt_of_le (by have:=World.block_lt_of_cell? _ _ d0;first | rwa [add_block] at this | exact this) d2.out) | (rw [add_block];exact Nat.ne_of_lt (Nat.lt_of_lt_of_le (by have:=World.block_lt_of_cell? _ _ d0;first | rwa [add_block] at this | exact this) d2.out)) | (show (Addr.add _ _).block ≠ _;rw [add_block];exact Nat.ne_of_lt (Nat.lt_of_lt_of_le (by have:=World.block_lt_of_cell? _ _ d0;first | rwa [add_block] at this | exact this) d2.out)) | (dsimp only;exact Nat.ne_of_lt (Nat.lt_of_lt_of_le (by have:=World.block_lt_of_cell? _ _ d0;first | rwa [add_block] at this | exact this) d2.out))) _).trans (hHeld.2.2.2.2.1)))),((cell_far (p:=⟨b5,_,none⟩) (by first | exact Nat.ne_of_lt (Nat.lt_of_lt_of_le (by have:=World.block_lt_of_cell? _ _ d1;first | rwa [add_block] at this | exact this) d2.out) | (rw [add_block];exact Nat.ne_of_lt (Nat.lt_of_lt_of_le (by have:=World.block_lt_of_cell? _ _ d1;first | rwa [add_block] at this | exact this) d2.out)) | (show (Addr.add _ _).block ≠ _;rw [add_block];exact Nat.ne_of_lt (Nat.lt_of_lt_of_le (by have:=World.block_lt_of_cell? _ _ d1;first | rwa [add_block] at this | exact this) d2.out)) | (dsimp only;exact Nat.ne_of_lt (Nat.lt_of_lt_of_le (by have:=World.block_lt_of_cell? _ _ d1;first | rwa [add_block] at this | exact this) d2.out))) _).trans (((cell_far (p:=⟨b5,_,none⟩) (by first | exact Nat.ne_of_lt (Nat.lt_of_lt_of_le (by have:=World.block_lt_of_cell? _ _ d1;first | rwa [add_block] at this | exact this) d2.out) | (rw [add_block];exact Nat.ne_of_lt (Nat.lt_of_lt_of_le (by have:=World.block_lt_of_cell? _ _ d1;first | rwa [add_block] at this | exact this) d2.out)) | (show (Addr.add _ _).block ≠ _;rw [add_block];exact Nat.ne_of_lt (Nat.lt_of_lt_of_le (by have:=World.block_lt_of_cell? _ _ d1;first | rwa [add_block] at this | exact this) d2.out)) | (dsimp only;exact Nat.ne_of_lt (Nat.lt_of_lt_of_le (by have:=World.block_lt_of_cell? _ _ d1;first | rwa [add_block] at this | exact this) d2.out))) _).trans (hHeld.2.2.2.2.2))))⟩ (fun hHeld=>?_)
      clear hK K
      refine one_ (i:=24) (N:=none) (ba 25 33554431) rfl rfl (one_of HT_.out (by kernel_rfl)) (by decide) (fun K hK=>?_)
      have U0:q6.cell? ⟨b6,0,none⟩ = some (.int .i64 0):=cz e6 0
      have Q5:=blk_frozen e6.out 0
      have I1:=d8.out
      have I2:=e0.out
      have I3:=h0.out
      have I4:=e2.out
      have I5:=e4.out
      have I6:=e9.out
      have U1:q6.cell? ⟨b6,1,none⟩ = some (.int .i64 0):=cz e6 1
      have Q6:=blk_frozen e6.out 1
      have I7:=d8.out
      have I8:=e0.out
      have I9:=h0.out
      have J0:=e2.out
      have J1:=e4.out
      have J2:=e9.out
      refine skip_ (w1:=?_) (by rfl) rfl ?_ ?_
      rotate_left
      ·go_simp
       rfl
      refine hK.out _ _ ⟨((cell_far (p:=⟨b6,_,none⟩) (by first | exact Nat.ne_of_lt (Nat.lt_of_lt_of_le (by have:=World.block_lt_of_cell? _ _ b8;first | rwa [add_block] at this | exact this) d3.out) | (rw [add_block];exact Nat.ne_of_lt (Nat.lt_of_lt_of_le (by have:=World.block_lt_of_cell? _ _ b8;first | rwa [add_block] at this | exact this) d3.out)) | (show (Addr.add _ _).block ≠ _;rw [add_block];exact Nat.ne_of_lt (Nat.lt_of_lt_of_le (by have:=World.block_lt_of_cell? _ _ b8;first | rwa [add_block] at this | exact this) d3.out)) | (dsimp only;exact Nat.ne_of_lt (Nat.lt_of_lt_of_le (by have:=World.block_lt_of_cell? _ _ b8;first | rwa [add_block] at this | exact this) d3.out))) _).trans (((cell_far (p:=⟨b6,_,none⟩) (by first | exact Nat.ne_of_lt (Nat.lt_of_lt_of_le (by have:=World.block_lt_of_cell? _ _ b8;first | rwa [add_block] at this | exact this) d3.out) | (rw [add_block];exact Nat.ne_of_lt (Nat.lt_of_lt_of_le (by have:=World.block_lt_of_cell? _ _ b8;first | rwa [add_block] at this | exact this) d3.out)) | (show (Addr.add _ _).block ≠ _;rw [add_block];exact Nat.ne_of_lt (Nat.lt_of_lt_of_le (by have:=World.block_lt_of_cell? _ _ b8;first | rwa [add_block] at this | exact this) d3.out)) | (dsimp only;exact Nat.ne_of_lt (Nat.lt_of_lt_of_le (by have:=World.block_lt_of_cell? _ _ b8;first | rwa [add_block] at this | exact this) d3.out))) _).trans (hHeld.1)))),((cell_far (p:=⟨b6,_,none⟩) (by first | exact Nat.ne_of_lt (Nat.lt_of_lt_of_le (by have:=World.block_lt_of_cell? _ _ b7;first | rwa [add_block] at this | exact this) d3.out) | (rw [add_block];exact Nat.ne_of_lt (Nat.lt_of_lt_of_le (by have:=World.block_lt_of_cell? _ _ b7;first | rwa [add_block] at this | exact this) d3.out)) | (show (Addr.add _ _).block ≠ _;rw [add_block];exact Nat.ne_of_lt (Nat.lt_of_lt_of_le (by have:=World.block_lt_of_cell? _ _ b7;first | rwa [add_block] at this | exact this) d3.out)) | (dsimp only;exact Nat.ne_of_lt (Nat.lt_of_lt_of_le (by have:=World.block_lt_of_cell? _ _ b7;first | rwa [add_block] at this | exact this) d3.out))) _).trans (((cell_far (p:=⟨b6,_,none⟩) (by first | exact Nat.ne_of_lt (Nat.lt_of_lt_of_le (by have:=World.block_lt_of_cell? _ _ b7;first | rwa [add_block] at this | exact this) d3.out) | (rw [add_block];exact Nat.ne_of_lt (Nat.lt_of_lt_of_le (by have:=World.block_lt_of_cell? _ _ b7;first | rwa [add_block] at this | exact this) d3.out)) | (show (Addr.add _ _).block ≠ _;rw [add_block];exact Nat.ne_of_lt (Nat.lt_of_lt_of_le (by have:=World.block_lt_of_cell? _ _ b7;first | rwa [add_block] at this | exact this) d3.out)) | (dsimp only;exact Nat.ne_of_lt (Nat.lt_of_lt_of_le (by have:=World.block_lt_of_cell? _ _ b7;first | rwa [add_block] at this | exact this) d3.out))) _).trans (hHeld.2.1)))),((cell_far (p:=⟨b6,_,none⟩) (by first | exact Nat.ne_of_lt (Nat.lt_of_lt_of_le (by have:=World.block_lt_of_cell? _ _ c1;first | rwa [add_block] at this | exact this) d3.out) | (rw [add_block];exact Nat.ne_of_lt (Nat.lt_of_lt_of_le (by have:=World.block_lt_of_cell? _ _ c1;first | rwa [add_block] at this | exact this) d3.out)) | (show (Addr.add _ _).block ≠ _;rw [add_block];exact Nat.ne_of_lt (Nat.lt_of_lt_of_le (by have:=World.block_lt_of_cell? _ _ c1;first | rwa [add_block] at this | exact this) d3.out)) | (dsimp only;exact Nat.ne_of_lt (Nat.lt_of_lt_of_le (by have:=World.block_lt_of_cell? _ _ c1;first | rwa [add_block] at this | exact this) d3.out))) _).trans (((cell_far (p:=⟨b6,_,none⟩) (by first | exact Nat.ne_of_lt (Nat.lt_of_lt_of_le (by have:=World.block_lt_of_cell? _ _ c1;first | rwa [add_block] at this | exact this) d3.out) | (rw [add_block];exact Nat.ne_of_lt (Nat.lt_of_lt_of_le (by have:=World.block_lt_of_cell? _ _ c1;first | rwa [add_block] at this | exact this) d3.out)) | (show (Addr.add _ _).block ≠ _;rw [add_block];exact Nat.ne_of_lt (Nat.lt_of_lt_of_le (by have:=World.block_lt_of_cell? _ _ c1;first | rwa [add_block] at this | exact this) d3.out)) | (dsimp only;exact Nat.ne_of_lt (Nat.lt_of_lt_of_le (by have:=World.block_lt_of_cell? _ _ c1;first | rwa [add_block] at this | exact this) d3.out))) _).trans (hHeld.2.2.1)))),((cell_far (p:=⟨b6,_,none⟩) (by first | exact Nat.ne_of_lt (Nat.lt_of_lt_of_le (by have:=World.block_lt_of_cell? _ _ b9;first | rwa [add_block] at this | exact this) d3.out) | (rw [add_block];exact Nat.ne_of_lt (Nat.lt_of_lt_of_le (by have:=World.block_lt_of_cell? _ _ b9;first | rwa [add_block] at this | exact this) d3.out)) | (show (Addr.add _ _).block ≠ _;rw [add_block];exact Nat.ne_of_lt (Nat.lt_of_lt_of_le (by have:=World.block_lt_of_cell? _ _ b9;first | rwa [add_block] at this | exact this) d3.out)) | (dsimp only;exact Nat.ne_of_lt (Nat.lt_of_lt_of_le (by have:=World.block_lt_of_cell? _ _ b9;first | rwa [add_block] at this | exact this) d3.out))) _).trans (((cell_far (p:=⟨b6,_,none⟩) (by first | exact Nat.ne_of_lt (Nat.lt_of_lt_of_le (by have:=World.block_lt_of_cell? _ _ b9;first | rwa [add_block] at this | exact this) d3.out) | (rw [add_block];exact Nat.ne_of_lt (Nat.lt_of_lt_of_le (by have:=World.block_lt_of_cell? _ _ b9;first | rwa [add_block] at this | exact this) d3.out)) | (show (Addr.add _ _).block ≠ _;rw [add_block];exact Nat.ne_of_lt (Nat.lt_of_lt_of_le (by have:=World.block_lt_of_cell? _ _ b9;first | rwa [add_block] at this | exact this) d3.out)) | (dsimp only;exact Nat.ne_of_lt (Nat.lt_of_lt_of_le (by have:=World.block_lt_of_cell? _ _ b9;first | rwa [add_block] at this | exact this) d3.out))) _).trans (hHeld.2.2.2.1)))),((cell_far (p:=⟨b6,_,none⟩) (by first | exact Nat.ne_of_lt (Nat.lt_of_lt_of_le (by have:=World.block_lt_of_cell? _ _ d0;first | rwa [add_block] at this | exact this) d3.out) | (rw [add_block];exact Nat.ne_of_lt (Nat.lt_of_lt_of_le (by have:=World.block_lt_of_cell? _ _ d0;first | rwa [add_block] at this | exact this) d3.out)) | (show (Addr.add _ _).block ≠ _;rw [add_block];exact Nat.ne_of_lt (Nat.lt_of_lt_of_le (by have:=World.block_lt_of_cell? _ _ d0;first | rwa [add_block] at this | exact this) d3.out)) | (dsimp only;exact Nat.ne_of_lt (Nat.lt_of_lt_of_le (by have:=World.block_lt_of_cell? _ _ d0;first | rwa [add_block] at this | exact this) d3.out))) _).trans (((cell_far (p:=⟨b6,_,none⟩) (by first | exact Nat.ne_of_lt (Nat.lt_of_lt_of_le (by have:=World.block_lt_of_cell? _ _ d0;first | rwa [add_block] at this | exact this) d3.out) | (rw [add_block];exact Nat.ne_of_lt (Nat.lt_of_lt_of_le (by have:=World.block_lt_of_cell? _ _ d0;first | rwa [add_block] at this | exact this) d3.out)) | (show (Addr.add _ _).block ≠ _;rw [add_block];exact Nat.ne_of_lt (Nat.lt_of_lt_of_le (by have:=World.block_lt_of_cell? _ _ d0;first | rwa [add_block] at this | exact this) d3.out)) | (dsimp only;exact Nat.ne_of_lt (Nat.lt_of_lt_of_le (by have:=World.block_lt_of_cell? _ _ d0;first | rwa [add_block] at this | exact this) d3.out))) _).trans (hHeld.2.2.2.2.1)))),((cell_far (p:=⟨b6,_,none⟩) (by first | exact Nat.ne_of_lt (Nat.lt_of_lt_of_le (by have:=World.block_lt_of_cell? _ _ d1;first | rwa [add_block] at this | exact this) d3.out) | (rw [add_block];exact Nat.ne_of_lt (Nat.lt_of_lt_of_le (by have:=World.block_lt_of_cell? _ _ d1;first | rwa [add_block] at this | exact this) d3.out)) | (show (Addr.add _ _).block ≠ _;rw [add_block];exact Nat.ne_of_lt (Nat.lt_of_lt_of_le (by have:=World.block_lt_of_cell? _ _ d1;first | rwa [add_block] at this | exact this) d3.out)) | (dsimp only;exact Nat.ne_of_lt (Nat.lt_of_lt_of_le (by have:=World.block_lt_of_cell? _ _ d1;first | rwa [add_block] at this | exact this) d3.out))) _).trans (((cell_far (p:=⟨b6,_,none⟩) (by first | exact Nat.ne_of_lt (Nat.lt_of_lt_of_le (by have:=World.block_lt_of_cell? _ _ d1;first | rwa [add_block] at this | exact this) d3.out) | (rw [add_block];exact Nat.ne_of_lt (Nat.lt_of_lt_of_le (by have:=World.block_lt_of_cell? _ _ d1;first | rwa [add_block] at this | exact this) d3.out)) | (show (Addr.add _ _).block ≠ _;rw [add_block];exact Nat.ne_of_lt (Nat.lt_of_lt_of_le (by have:=World.block_lt_of_cell? _ _ d1;first | rwa [add_block] at this | exact this) d3.out)) | (dsimp only;exact Nat.ne_of_lt (Nat.lt_of_lt_of_le (by have:=World.block_lt_of_cell? _ _ d1;first | rwa [add_block] at this | exact this) d3.out))) _).trans (hHeld.2.2.2.2.2))))⟩ (fun hHeld=>?_)
      clear hK K
      refine done_ (done_of HT_.out (by kernel_rfl)) ?_
      try go_wp2
      have x3:Aside0 (((((q6.setCell ⟨b5,0,none⟩ (.int .i64 h3)).setCell ⟨b5,1,none⟩ (.int .i64 h5)).setCell ⟨b6,0,none⟩ (.int .i64 h4)).setCell ⟨b6,1,none⟩ (.int .i64 h6)).heap[d4]? = some (.cells #[.int .i64 e8,.int .i64 e7] 51 (0,0))):=⟨by (with_reducible repeat (first | refine blk_drewN ?_ _ | refine blk_drew ?_ | refine blk_alloc ?_ _));refine blk_far ?_ d8.out _;(with_reducible repeat (first | refine blk_drewN ?_ _ | refine blk_drew ?_ | refine blk_alloc ?_ _));refine blk_far ?_ d8.out _;(with_reducible repeat (first | refine blk_drewN ?_ _ | refine blk_drew ?_ | refine blk_alloc ?_ _));refine blk_far ?_ d7.out _;(with_reducible repeat (first | refine blk_drewN ?_ _ | refine blk_drew ?_ | refine blk_alloc ?_ _));refine blk_far ?_ d7.out _;(with_reducible repeat (first | refine blk_drewN ?_ _ | refine blk_drew ?_ | refine blk_alloc ?_ _));exact b3.out⟩
      have x4:Aside0 (((((q6.setCell ⟨b5,0,none⟩ (.int .i64 h3)).setCell ⟨b5,1,none⟩ (.int .i64 h5)).setCell ⟨b6,0,none⟩ (.int .i64 h4)).setCell ⟨b6,1,none⟩ (.int .i64 h6)).heap[d5]? = some (.cells #[.slice (some d6) l0.length c0,.int .i64 a1] 94 (0,0))):=⟨by (with_reducible repeat (first | refine blk_drewN ?_ _ | refine blk_drew ?_ | refine blk_alloc ?_ _));refine blk_far ?_ e0.out _;(with_reducible repeat (first | refine blk_drewN ?_ _ | refine blk_drew ?_ | refine blk_alloc ?_ _));refine blk_far ?_ e0.out _;(with_reducible repeat (first | refine blk_drewN ?_ _ | refine blk_drew ?_ | refine blk_alloc ?_ _));refine blk_far ?_ d9.out _;(with_reducible repeat (first | refine blk_drewN ?_ _ | refine blk_drew ?_ | refine blk_alloc ?_ _));refine blk_far ?_ d9.out _;(with_reducible repeat (first | refine blk_drewN ?_ _ | refine blk_drew ?_ | refine blk_alloc ?_ _));exact b4.out⟩
      have x5:Aside0 (((((q6.setCell ⟨b5,0,none⟩ (.int .i64 h3)).setCell ⟨b5,1,none⟩ (.int .i64 h5)).setCell ⟨b6,0,none⟩ (.int .i64 h4)).setCell ⟨b6,1,none⟩ (.int .i64 h6)).heap[b5]? = some (.cells #[.int .i64 h3,.int .i64 h5] 23 (0,0))):=⟨by (with_reducible repeat (first | refine blk_drewN ?_ _ | refine blk_drew ?_ | refine blk_alloc ?_ _));refine blk_far ?_ h0.out _;(with_reducible repeat (first | refine blk_drewN ?_ _ | refine blk_drew ?_ | refine blk_alloc ?_ _));refine blk_far ?_ h0.out _;(with_reducible repeat (first | refine blk_drewN ?_ _ | refine blk_drew ?_ | refine blk_alloc ?_ _));refine blk_put (cs:=#[.int .i64 h3,.int .i64 0]) ?_ 1 _ rfl;(with_reducible repeat (first | refine blk_drewN ?_ _ | refine blk_drew ?_ | refine blk_alloc ?_ _));refine blk_put (cs:=#[.int .i64 0,.int .i64 0]) ?_ 0 _ rfl;(with_reducible repeat (first | refine blk_drewN ?_ _ | refine blk_drew ?_ | refine blk_alloc ?_ _));exact e5.out⟩
      have x6:Aside0 (((((q6.setCell ⟨b5,0,none⟩ (.int .i64 h3)).setCell ⟨b5,1,none⟩ (.int .i64 h5)).setCell ⟨b6,0,none⟩ (.int .i64 h4)).setCell ⟨b6,1,none⟩ (.int .i64 h6)).heap[b6]? = some (.cells #[.int .i64 h4,.int .i64 h6] 23 (0,0))):=⟨by (with_reducible repeat (first | refine blk_drewN ?_ _ | refine blk_drew ?_ | refine blk_alloc ?_ _));refine blk_put (cs:=#[.int .i64 h4,.int .i64 0]) ?_ 1 _ rfl;(with_reducible repeat (first | refine blk_drewN ?_ _ | refine blk_drew ?_ | refine blk_alloc ?_ _));refine blk_put (cs:=#[.int .i64 0,.int .i64 0]) ?_ 0 _ rfl;(with_reducible repeat (first | refine blk_drewN ?_ _ | refine blk_drew ?_ | refine blk_alloc ?_ _));refine blk_far ?_ e9.out _;(with_reducible repeat (first | refine blk_drewN ?_ _ | refine blk_drew ?_ | refine blk_alloc ?_ _));refine blk_far ?_ e9.out _;(with_reducible repeat (first | refine blk_drewN ?_ _ | refine blk_drew ?_ | refine blk_alloc ?_ _));exact e6.out⟩
      have x7:Aside0 (Below w.heap.size w ((((q6.setCell ⟨b5,0,none⟩ (.int .i64 h3)).setCell ⟨b5,1,none⟩ (.int .i64 h5)).setCell ⟨b6,0,none⟩ (.int .i64 h4)).setCell ⟨b6,1,none⟩ (.int .i64 h6))):=⟨bl HB⟩
      generalize ((((q6.setCell ⟨b5,0,none⟩ (.int .i64 h3)).setCell ⟨b5,1,none⟩ (.int .i64 h5)).setCell ⟨b6,0,none⟩ (.int .i64 h4)).setCell ⟨b6,1,none⟩ (.int .i64 h6)) = U2 at x3 x4 x5 x6 x7 ⊢
      have b3:=x3
      have b4:=x4
      have e5:=x5
      have e6:=x6
      have HB:=x7
      clear x3 x4 x5 x6 x7
      replace b3:=kD b3
      replace b4:=kD b4
      replace e5:=kD e5
      replace e6:=kD e6
      replace HB:=bD HB
      have p7:0 ≤ (b0:Int):=of_decide_eq_true (by first | (with_reducible assumption) | assumption)
      have p8:b0 < (l2.length:Int):=of_decide_eq_true (by first | (with_reducible assumption) | assumption)
      obtain ⟨r6,s7,i6,i7⟩:=at_T23 t0.out b0 p7 p8
      have n6:=i7
      have n7:=i6
      obtain rfl:b2 = r6:=(by injection s7)
      replace i6:=(HB.out.cell (World.block_lt_of_cell? w _ i6)).trans i6
      replace i7:=(HB.out.cell (World.block_lt_of_cell? w _ i7)).trans i7
      replace p7:=eq_true p7
      replace p8:=eq_true p8
      have r7:0 ≤ (b1:Int):=of_decide_eq_true (by first | (with_reducible assumption) | assumption)
      have r8:b1 < (l2.length:Int):=of_decide_eq_true (by first | (with_reducible assumption) | assumption)
      obtain ⟨s9,x8,m1,m2⟩:=at_T23 t0.out b1 r7 r8
      have p9:=m2
      have q0:=m1
      obtain rfl:b2 = s9:=(by injection x8)
      replace m1:=(HB.out.cell (World.block_lt_of_cell? w _ m1)).trans m1
      replace m2:=(HB.out.cell (World.block_lt_of_cell? w _ m2)).trans m2
      replace r7:=eq_true r7
      replace r8:=eq_true r8
      refine start_ (n:=14) (S:=fun w'=>w'.cell? ⟨b5,0,none⟩ = some (.int .i64 h3) ∧ w'.cell? ⟨b5,1,none⟩ = some (.int .i64 h5) ∧ w'.cell? ⟨b6,0,none⟩ = some (.int .i64 h4) ∧ w'.cell? ⟨b6,1,none⟩ = some (.int .i64 h6) ∧ w'.cell? (b2.add ((b0).toNat * 2)) = some (.int .i64 ((rd_T23 l2 b0).f0)) ∧ w'.cell? ⟨(b2.add ((b0).toNat * 2)).block,(b2.add ((b0).toNat * 2)).off + 1,none⟩ = some (.int .i64 ((rd_T23 l2 b0).f1)) ∧ w'.cell? (b2.add ((b1).toNat * 2)) = some (.int .i64 ((rd_T23 l2 b1).f0)) ∧ w'.cell? ⟨(b2.add ((b1).toNat * 2)).block,(b2.add ((b1).toNat * 2)).off + 1,none⟩ = some (.int .i64 ((rd_T23 l2 b1).f1))) (ds:=[]) (ba 14 0) (by kernel_rfl) rfl rfl ⟨cz e5 0,cz e5 1,cz e6 0,cz e6 1,((HB.out.cell (World.block_lt_of_cell? w _ n7)).trans n7),((HB.out.cell (World.block_lt_of_cell? w _ n6)).trans n6),((HB.out.cell (World.block_lt_of_cell? w _ q0)).trans q0),((HB.out.cell (World.block_lt_of_cell? w _ p9)).trans p9)⟩ (fun hHeld=>?_);refine with_tabW shares_Agrees.tab13 shares_Agrees.bits13 (fun HT_ HW_=>?_)
      generalize U2.drew = V5 at b3 b4 e5 e6 HB i6 i7 m1 m2 hHeld ⊢
      refine pq 1 64 2 HT_ ?_
      refine pq 2 65 6 HT_ ?_
      refine pq 3 66 14 HT_ ?_
      refine tq 0 63 15 HT_ HW_ hHeld ?_
      refine tq 4 67 31 HT_ HW_ hHeld ?_
      refine pq 5 68 63 HT_ ?_
      refine pq 6 69 127 HT_ ?_
      refine pq 8 71 383 HT_ ?_
      refine pq 9 72 895 HT_ ?_
      refine pq 10 73 1919 HT_ ?_
      refine tq 7 70 2047 HT_ HW_ hHeld ?_
      refine tq 11 74 4095 HT_ HW_ hHeld ?_
      refine pq 12 75 8191 HT_ ?_
      refine pq 13 76 16383 HT_ ?_
      refine done_ (done_of HT_.out (by kernel_rfl)) ?_
      try go_wp2
      go_roundg k2
      case measure=>have:=D5.out;have:=E0.out;omega
      case rel=>exact ⟨(wrap64 (b1 + 1)),(e8),(e7),(by first | rfl | (simp;done) | (simp [*];done)),H',⟨by have:=D5.out;have:=E0.out;omega⟩,⟨by (with_reducible repeat (first | refine blk_drewN ?_ _ | refine blk_drew ?_ | refine blk_alloc ?_ _));exact b3.out⟩,⟨by (with_reducible repeat (first | refine blk_drewN ?_ _ | refine blk_drew ?_ | refine blk_alloc ?_ _));exact b4.out⟩,⟨bl HB⟩⟩
     rw [if_pos z1] at H
     have z8:(!(h4 == ((rd_T23 l2 b1).f0)) || (!(h6 == ((rd_T23 l2 b1).f1)))) = true:=z1
     clear z1
     simp only [Option.some.injEq,Prod.mk.injEq] at H
     obtain ⟨rfl,rfl,rfl,rfl⟩:=H
     try go_wp2
     replace b3:=kD b3
     replace b4:=kD b4
     replace HB:=bD HB
     have o7:0 ≤ (b0:Int):=of_decide_eq_true (by first | (with_reducible assumption) | assumption)
     have o8:b0 < (l2.length:Int):=of_decide_eq_true (by first | (with_reducible assumption) | assumption)
     obtain ⟨b2,s3,i0,i1⟩:=at_T23 t0.out b0 o7 o8
     have b7:=i1
     have b8:=i0
     cases s3
     replace i0:=(HB.out.cell (World.block_lt_of_cell? w _ i0)).trans i0
     replace i1:=(HB.out.cell (World.block_lt_of_cell? w _ i1)).trans i1
     replace o7:=eq_true o7
     replace o8:=eq_true o8
     have o9:0 ≤ (b1:Int):=of_decide_eq_true (by first | (with_reducible assumption) | assumption)
     have p0:b1 < (l2.length:Int):=of_decide_eq_true (by first | (with_reducible assumption) | assumption)
     obtain ⟨q9,s4,i2,i3⟩:=at_T23 t0.out b1 o9 p0
     have b9:=i3
     have c1:=i2
     obtain rfl:b2 = q9:=(by injection s4)
     replace i2:=(HB.out.cell (World.block_lt_of_cell? w _ i2)).trans i2
     replace i3:=(HB.out.cell (World.block_lt_of_cell? w _ i3)).trans i3
     replace o9:=eq_true o9
     replace p0:=eq_true p0
     have p1:0 ≤ (b0:Int):=of_decide_eq_true (by first | (with_reducible assumption) | assumption)
     have p2:b0 < (l0.length:Int):=of_decide_eq_true (by first | (with_reducible assumption) | assumption)
     obtain ⟨d6,s5,i4⟩:=Kd.at_int t6.out b0 p1 p2
     have d0:=i4
     cases s5
     replace i4:=(HB.out.cell (World.block_lt_of_cell? w _ i4)).trans i4
     replace p1:=eq_true p1
     replace p2:=eq_true p2
     have p3:0 ≤ (b1:Int):=of_decide_eq_true (by first | (with_reducible assumption) | assumption)
     have p4:b1 < (l0.length:Int):=of_decide_eq_true (by first | (with_reducible assumption) | assumption)
     obtain ⟨r0,s6,i5⟩:=Kd.at_int t6.out b1 p3 p4
     have d1:=i5
     obtain rfl:d6 = r0:=(by injection s6)
     replace i5:=(HB.out.cell (World.block_lt_of_cell? w _ i5)).trans i5
     replace p3:=eq_true p3
     replace p4:=eq_true p4
     refine start_ (n:=25) (S:=fun w'=>w'.cell? (b2.add ((b0).toNat * 2)) = some (.int .i64 ((rd_T23 l2 b0).f0)) ∧ w'.cell? ⟨(b2.add ((b0).toNat * 2)).block,(b2.add ((b0).toNat * 2)).off + 1,none⟩ = some (.int .i64 ((rd_T23 l2 b0).f1)) ∧ w'.cell? (b2.add ((b1).toNat * 2)) = some (.int .i64 ((rd_T23 l2 b1).f0)) ∧ w'.cell? ⟨(b2.add ((b1).toNat * 2)).block,(b2.add ((b1).toNat * 2)).off + 1,none⟩ = some (.int .i64 ((rd_T23 l2 b1).f1)) ∧ w'.cell? (d6.add (b0).toNat) = some (.int .i64 (rd l0 b0)) ∧ w'.cell? (d6.add (b1).toNat) = some (.int .i64 (rd l0 b1))) (ds:=[]) (ba 25 0) (by kernel_rfl) rfl rfl ⟨((HB.out.cell (World.block_lt_of_cell? w _ b8)).trans b8),((HB.out.cell (World.block_lt_of_cell? w _ b7)).trans b7),((HB.out.cell (World.block_lt_of_cell? w _ c1)).trans c1),((HB.out.cell (World.block_lt_of_cell? w _ b9)).trans b9),((HB.out.cell (World.block_lt_of_cell? w _ d0)).trans d0),((HB.out.cell (World.block_lt_of_cell? w _ d1)).trans d1)⟩ (fun hHeld=>?_);refine with_tabW shares_Agrees.tab12 shares_Agrees.bits12 (fun HT_ HW_=>?_)
     generalize wr.drew = V6 at b3 b4 HB i0 i1 i2 i3 i4 i5 hHeld ⊢
     refine pq 0 43 1 HT_ ?_
     refine pq 1 44 3 HT_ ?_
     refine pq 2 45 7 HT_ ?_
     refine pq 4 47 23 HT_ ?_
     refine pq 5 48 55 HT_ ?_
     refine pq 6 49 119 HT_ ?_
     refine pq 9 52 631 HT_ ?_
     refine pq 10 53 1655 HT_ ?_
     refine pq 11 54 3703 HT_ ?_
     refine pq 13 56 11895 HT_ ?_
     refine pq 14 57 28279 HT_ ?_
     refine pq 15 58 61047 HT_ ?_
     refine tq 3 46 61055 HT_ HW_ hHeld ?_
     refine tq 7 50 61183 HT_ HW_ hHeld ?_
     refine tq 12 55 65279 HT_ HW_ hHeld ?_
     refine tq 16 59 130815 HT_ HW_ hHeld ?_
     refine join_ (σ:=Nat × Nat) 2 (ba 25 8388607) (fun s_=>[(51,.agg #[.int .i64 h7,.int .i64 h8]),(60,.tuple #[.agg #[.int .i64 h3,.int .i64 h5],.agg #[.int .i64 h4,.int .i64 h6]]),(13,.pointer (some ⟨s_.1,0,none⟩)),(14,.pointer (some ⟨s_.2,0,none⟩)),(42,.tuple #[.agg #[.int .i64 h3,.int .i64 h5],.agg #[.int .i64 h4,.int .i64 h6]]),(61,.agg #[.int .i64 h3,.int .i64 h5]),(62,.agg #[.int .i64 h4,.int .i64 h6])]) (fun s_ w'=>(w'.cell? (b2.add ((b0).toNat * 2)) = some (.int .i64 ((rd_T23 l2 b0).f0)) ∧ w'.cell? ⟨(b2.add ((b0).toNat * 2)).block,(b2.add ((b0).toNat * 2)).off + 1,none⟩ = some (.int .i64 ((rd_T23 l2 b0).f1)) ∧ w'.cell? (b2.add ((b1).toNat * 2)) = some (.int .i64 ((rd_T23 l2 b1).f0)) ∧ w'.cell? ⟨(b2.add ((b1).toNat * 2)).block,(b2.add ((b1).toNat * 2)).off + 1,none⟩ = some (.int .i64 ((rd_T23 l2 b1).f1)) ∧ w'.cell? (d6.add (b0).toNat) = some (.int .i64 (rd l0 b0)) ∧ w'.cell? (d6.add (b1).toNat) = some (.int .i64 (rd l0 b1))) ∧ (w'.heap[d4]? = some (.cells #[.int .i64 e8,.int .i64 e7] 51 (0,0))) ∧ (w'.heap[d5]? = some (.cells #[.slice (some d6) l0.length c0,.int .i64 a1] 94 (0,0))) ∧ (w'.heap[s_.1]? = some (.cells #[.int .i64 0,.int .i64 0] 23 (0,0))) ∧ (w'.heap[s_.2]? = some (.cells #[.int .i64 0,.int .i64 0] 23 (0,0))) ∧ (w.heap.size ≤ s_.1) ∧ (w.heap.size ≤ s_.1) ∧ (d4 ≠ s_.1) ∧ (s_.1 ≠ d4) ∧ (d5 ≠ s_.1) ∧ (s_.1 ≠ d5) ∧ (s_.2 ≠ s_.1) ∧ (s_.1 ≠ s_.2) ∧ (w.heap.size ≤ s_.2) ∧ (w.heap.size ≤ s_.2) ∧ (d4 ≠ s_.2) ∧ (s_.2 ≠ d4) ∧ (d5 ≠ s_.2) ∧ (s_.2 ≠ d5) ∧ (Below w.heap.size w w')) ?_ ?_
     rotate_left
     ·intro h9
      refine join_ (σ:=Nat) 3 (ba 25 4194303) (fun s_=>[(51,.agg #[.int .i64 h7,.int .i64 h8]),(60,.tuple #[.agg #[.int .i64 h3,.int .i64 h5],.agg #[.int .i64 h4,.int .i64 h6]]),(13,.pointer (some ⟨s_,0,none⟩)),(42,.tuple #[.agg #[.int .i64 h3,.int .i64 h5],.agg #[.int .i64 h4,.int .i64 h6]]),(61,.agg #[.int .i64 h3,.int .i64 h5]),(62,.agg #[.int .i64 h4,.int .i64 h6])]) (fun s_ w'=>(w'.cell? (b2.add ((b0).toNat * 2)) = some (.int .i64 ((rd_T23 l2 b0).f0)) ∧ w'.cell? ⟨(b2.add ((b0).toNat * 2)).block,(b2.add ((b0).toNat * 2)).off + 1,none⟩ = some (.int .i64 ((rd_T23 l2 b0).f1)) ∧ w'.cell? (b2.add ((b1).toNat * 2)) = some (.int .i64 ((rd_T23 l2 b1).f0)) ∧ w'.cell? ⟨(b2.add ((b1).toNat * 2)).block,(b2.add ((b1).toNat * 2)).off + 1,none⟩ = some (.int .i64 ((rd_T23 l2 b1).f1)) ∧ w'.cell? (d6.add (b0).toNat) = some (.int .i64 (rd l0 b0)) ∧ w'.cell? (d6.add (b1).toNat) = some (.int .i64 (rd l0 b1))) ∧ (w'.heap[d4]? = some (.cells #[.int .i64 e8,.int .i64 e7] 51 (0,0))) ∧ (w'.heap[d5]? = some (.cells #[.slice (some d6) l0.length c0,.int .i64 a1] 94 (0,0))) ∧ (w'.heap[s_]? = some (.cells #[.int .i64 0,.int .i64 0] 23 (0,0))) ∧ (w.heap.size ≤ s_) ∧ (w.heap.size ≤ s_) ∧ (d4 ≠ s_) ∧ (s_ ≠ d4) ∧ (d5 ≠ s_) ∧ (s_ ≠ d5) ∧ (Below w.heap.size w w')) ?_ ?_
      rotate_left
      ·intro m4
       refine join_ (σ:=Nat) 3 (ba 25 6291455) (fun s_=>[(51,.agg #[.int .i64 h7,.int .i64 h8]),(60,.tuple #[.agg #[.int .i64 h3,.int .i64 h5],.agg #[.int .i64 h4,.int .i64 h6]]),(14,.pointer (some ⟨s_,0,none⟩)),(42,.tuple #[.agg #[.int .i64 h3,.int .i64 h5],.agg #[.int .i64 h4,.int .i64 h6]]),(61,.agg #[.int .i64 h3,.int .i64 h5]),(62,.agg #[.int .i64 h4,.int .i64 h6])]) (fun s_ w'=>(w'.cell? (b2.add ((b0).toNat * 2)) = some (.int .i64 ((rd_T23 l2 b0).f0)) ∧ w'.cell? ⟨(b2.add ((b0).toNat * 2)).block,(b2.add ((b0).toNat * 2)).off + 1,none⟩ = some (.int .i64 ((rd_T23 l2 b0).f1)) ∧ w'.cell? (b2.add ((b1).toNat * 2)) = some (.int .i64 ((rd_T23 l2 b1).f0)) ∧ w'.cell? ⟨(b2.add ((b1).toNat * 2)).block,(b2.add ((b1).toNat * 2)).off + 1,none⟩ = some (.int .i64 ((rd_T23 l2 b1).f1)) ∧ w'.cell? (d6.add (b0).toNat) = some (.int .i64 (rd l0 b0)) ∧ w'.cell? (d6.add (b1).toNat) = some (.int .i64 (rd l0 b1))) ∧ (w'.heap[d4]? = some (.cells #[.int .i64 e8,.int .i64 e7] 51 (0,0))) ∧ (w'.heap[d5]? = some (.cells #[.slice (some d6) l0.length c0,.int .i64 a1] 94 (0,0))) ∧ (w'.heap[s_]? = some (.cells #[.int .i64 0,.int .i64 0] 23 (0,0))) ∧ (w.heap.size ≤ s_) ∧ (w.heap.size ≤ s_) ∧ (d4 ≠ s_) ∧ (s_ ≠ d4) ∧ (d5 ≠ s_) ∧ (s_ ≠ d5) ∧ (Below w.heap.size w w')) ?_ ?_
       rotate_left
       ·intro m5
        refine join_ (σ:=Nat × Nat) 6 (ba 25 6422527) (fun s_=>[(51,.agg #[.int .i64 h7,.int .i64 h8]),(13,.pointer (some ⟨s_.1,0,none⟩)),(14,.pointer (some ⟨s_.2,0,none⟩))]) (fun s_ w'=>(w'.cell? (b2.add ((b0).toNat * 2)) = some (.int .i64 ((rd_T23 l2 b0).f0)) ∧ w'.cell? ⟨(b2.add ((b0).toNat * 2)).block,(b2.add ((b0).toNat * 2)).off + 1,none⟩ = some (.int .i64 ((rd_T23 l2 b0).f1)) ∧ w'.cell? (b2.add ((b1).toNat * 2)) = some (.int .i64 ((rd_T23 l2 b1).f0)) ∧ w'.cell? ⟨(b2.add ((b1).toNat * 2)).block,(b2.add ((b1).toNat * 2)).off + 1,none⟩ = some (.int .i64 ((rd_T23 l2 b1).f1)) ∧ w'.cell? (d6.add (b0).toNat) = some (.int .i64 (rd l0 b0)) ∧ w'.cell? (d6.add (b1).toNat) = some (.int .i64 (rd l0 b1))) ∧ (w'.heap[d4]? = some (.cells #[.int .i64 e8,.int .i64 e7] 51 (0,0))) ∧ (w'.heap[d5]? = some (.cells #[.slice (some d6) l0.length c0,.int .i64 a1] 94 (0,0))) ∧ (w'.heap[s_.1]? = some (.cells #[.int .i64 0,.int .i64 0] 23 (0,0))) ∧ (w'.heap[s_.2]? = some (.cells #[.int .i64 0,.int .i64 0] 23 (0,0))) ∧ (w.heap.size ≤ s_.1) ∧ (w.heap.size ≤ s_.1) ∧ (d4 ≠ s_.1) ∧ (s_.1 ≠ d4) ∧ (d5 ≠ s_.1) ∧ (s_.1 ≠ d5) ∧ (s_.2 ≠ s_.1) ∧ (s_.1 ≠ s_.2) ∧ (w.heap.size ≤ s_.2) ∧ (w.heap.size ≤ s_.2) ∧ (d4 ≠ s_.2) ∧ (s_.2 ≠ d4) ∧ (d5 ≠ s_.2) ∧ (s_.2 ≠ d5) ∧ (Below w.heap.size w w')) ?_ ?_
        rotate_left
        ·intro j8
         refine join_ (σ:=Unit) 4 (ba 25 2097151) (fun s_=>[(51,.agg #[.int .i64 h7,.int .i64 h8]),(60,.tuple #[.agg #[.int .i64 h3,.int .i64 h5],.agg #[.int .i64 h4,.int .i64 h6]]),(42,.tuple #[.agg #[.int .i64 h3,.int .i64 h5],.agg #[.int .i64 h4,.int .i64 h6]]),(61,.agg #[.int .i64 h3,.int .i64 h5]),(62,.agg #[.int .i64 h4,.int .i64 h6])]) (fun s_ w'=>(w'.cell? (b2.add ((b0).toNat * 2)) = some (.int .i64 ((rd_T23 l2 b0).f0)) ∧ w'.cell? ⟨(b2.add ((b0).toNat * 2)).block,(b2.add ((b0).toNat * 2)).off + 1,none⟩ = some (.int .i64 ((rd_T23 l2 b0).f1)) ∧ w'.cell? (b2.add ((b1).toNat * 2)) = some (.int .i64 ((rd_T23 l2 b1).f0)) ∧ w'.cell? ⟨(b2.add ((b1).toNat * 2)).block,(b2.add ((b1).toNat * 2)).off + 1,none⟩ = some (.int .i64 ((rd_T23 l2 b1).f1)) ∧ w'.cell? (d6.add (b0).toNat) = some (.int .i64 (rd l0 b0)) ∧ w'.cell? (d6.add (b1).toNat) = some (.int .i64 (rd l0 b1))) ∧ (w'.heap[d4]? = some (.cells #[.int .i64 e8,.int .i64 e7] 51 (0,0))) ∧ (w'.heap[d5]? = some (.cells #[.slice (some d6) l0.length c0,.int .i64 a1] 94 (0,0))) ∧ (Below w.heap.size w w')) ?_ ?_
         rotate_left
         ·intro r5
          refine join_ (σ:=Nat) 7 (ba 25 2228223) (fun s_=>[(51,.agg #[.int .i64 h7,.int .i64 h8]),(13,.pointer (some ⟨s_,0,none⟩))]) (fun s_ w'=>(w'.cell? (b2.add ((b0).toNat * 2)) = some (.int .i64 ((rd_T23 l2 b0).f0)) ∧ w'.cell? ⟨(b2.add ((b0).toNat * 2)).block,(b2.add ((b0).toNat * 2)).off + 1,none⟩ = some (.int .i64 ((rd_T23 l2 b0).f1)) ∧ w'.cell? (b2.add ((b1).toNat * 2)) = some (.int .i64 ((rd_T23 l2 b1).f0)) ∧ w'.cell? ⟨(b2.add ((b1).toNat * 2)).block,(b2.add ((b1).toNat * 2)).off + 1,none⟩ = some (.int .i64 ((rd_T23 l2 b1).f1)) ∧ w'.cell? (d6.add (b0).toNat) = some (.int .i64 (rd l0 b0)) ∧ w'.cell? (d6.add (b1).toNat) = some (.int .i64 (rd l0 b1))) ∧ (w'.heap[d4]? = some (.cells #[.int .i64 e8,.int .i64 e7] 51 (0,0))) ∧ (w'.heap[d5]? = some (.cells #[.slice (some d6) l0.length c0,.int .i64 a1] 94 (0,0))) ∧ (w'.heap[s_]? = some (.cells #[.int .i64 0,.int .i64 0] 23 (0,0))) ∧ (w.heap.size ≤ s_) ∧ (w.heap.size ≤ s_) ∧ (d4 ≠ s_) ∧ (s_ ≠ d4) ∧ (d5 ≠ s_) ∧ (s_ ≠ d5) ∧ (Below w.heap.size w w')) ?_ ?_
          rotate_left
          ·intro p5
           refine join_ (σ:=Nat) 7 (ba 25 4325375) (fun s_=>[(51,.agg #[.int .i64 h7,.int .i64 h8]),(14,.pointer (some ⟨s_,0,none⟩))]) (fun s_ w'=>(w'.cell? (b2.add ((b0).toNat * 2)) = some (.int .i64 ((rd_T23 l2 b0).f0)) ∧ w'.cell? ⟨(b2.add ((b0).toNat * 2)).block,(b2.add ((b0).toNat * 2)).off + 1,none⟩ = some (.int .i64 ((rd_T23 l2 b0).f1)) ∧ w'.cell? (b2.add ((b1).toNat * 2)) = some (.int .i64 ((rd_T23 l2 b1).f0)) ∧ w'.cell? ⟨(b2.add ((b1).toNat * 2)).block,(b2.add ((b1).toNat * 2)).off + 1,none⟩ = some (.int .i64 ((rd_T23 l2 b1).f1)) ∧ w'.cell? (d6.add (b0).toNat) = some (.int .i64 (rd l0 b0)) ∧ w'.cell? (d6.add (b1).toNat) = some (.int .i64 (rd l0 b1))) ∧ (w'.heap[d4]? = some (.cells #[.int .i64 e8,.int .i64 e7] 51 (0,0))) ∧ (w'.heap[d5]? = some (.cells #[.slice (some d6) l0.length c0,.int .i64 a1] 94 (0,0))) ∧ (w'.heap[s_]? = some (.cells #[.int .i64 0,.int .i64 0] 23 (0,0))) ∧ (w.heap.size ≤ s_) ∧ (w.heap.size ≤ s_) ∧ (d4 ≠ s_) ∧ (s_ ≠ d4) ∧ (d5 ≠ s_) ∧ (s_ ≠ d5) ∧ (Below w.heap.size w w')) ?_ ?_
           rotate_left
           ·intro p6
            refine join_ (σ:=Nat × Nat) 7 (ba 25 6422271) (fun s_=>[(13,.pointer (some ⟨s_.1,0,none⟩)),(14,.pointer (some ⟨s_.2,0,none⟩))]) (fun s_ w'=>(w'.cell? (b2.add ((b0).toNat * 2)) = some (.int .i64 ((rd_T23 l2 b0).f0)) ∧ w'.cell? ⟨(b2.add ((b0).toNat * 2)).block,(b2.add ((b0).toNat * 2)).off + 1,none⟩ = some (.int .i64 ((rd_T23 l2 b0).f1)) ∧ w'.cell? (b2.add ((b1).toNat * 2)) = some (.int .i64 ((rd_T23 l2 b1).f0)) ∧ w'.cell? ⟨(b2.add ((b1).toNat * 2)).block,(b2.add ((b1).toNat * 2)).off + 1,none⟩ = some (.int .i64 ((rd_T23 l2 b1).f1)) ∧ w'.cell? (d6.add (b0).toNat) = some (.int .i64 (rd l0 b0)) ∧ w'.cell? (d6.add (b1).toNat) = some (.int .i64 (rd l0 b1))) ∧ (w'.heap[d4]? = some (.cells #[.int .i64 e8,.int .i64 e7] 51 (0,0))) ∧ (w'.heap[d5]? = some (.cells #[.slice (some d6) l0.length c0,.int .i64 a1] 94 (0,0))) ∧ (w'.heap[s_.1]? = some (.cells #[.int .i64 0,.int .i64 0] 23 (0,0))) ∧ (w'.heap[s_.2]? = some (.cells #[.int .i64 0,.int .i64 0] 23 (0,0))) ∧ (w.heap.size ≤ s_.1) ∧ (w.heap.size ≤ s_.1) ∧ (d4 ≠ s_.1) ∧ (s_.1 ≠ d4) ∧ (d5 ≠ s_.1) ∧ (s_.1 ≠ d5) ∧ (s_.2 ≠ s_.1) ∧ (s_.1 ≠ s_.2) ∧ (w.heap.size ≤ s_.2) ∧ (w.heap.size ≤ s_.2) ∧ (d4 ≠ s_.2) ∧ (s_.2 ≠ d4) ∧ (d5 ≠ s_.2) ∧ (s_.2 ≠ d5) ∧ (Below w.heap.size w w')) ?_ ?_
            rotate_left
            ·intro o2
             refine join_ (σ:=Unit) 8 (ba 25 131071) (fun s_=>[(51,.agg #[.int .i64 h7,.int .i64 h8])]) (fun s_ w'=>(w'.cell? (b2.add ((b0).toNat * 2)) = some (.int .i64 ((rd_T23 l2 b0).f0)) ∧ w'.cell? ⟨(b2.add ((b0).toNat * 2)).block,(b2.add ((b0).toNat * 2)).off + 1,none⟩ = some (.int .i64 ((rd_T23 l2 b0).f1)) ∧ w'.cell? (b2.add ((b1).toNat * 2)) = some (.int .i64 ((rd_T23 l2 b1).f0)) ∧ w'.cell? ⟨(b2.add ((b1).toNat * 2)).block,(b2.add ((b1).toNat * 2)).off + 1,none⟩ = some (.int .i64 ((rd_T23 l2 b1).f1)) ∧ w'.cell? (d6.add (b0).toNat) = some (.int .i64 (rd l0 b0)) ∧ w'.cell? (d6.add (b1).toNat) = some (.int .i64 (rd l0 b1))) ∧ (w'.heap[d4]? = some (.cells #[.int .i64 e8,.int .i64 e7] 51 (0,0))) ∧ (w'.heap[d5]? = some (.cells #[.slice (some d6) l0.length c0,.int .i64 a1] 94 (0,0))) ∧ (Below w.heap.size w w')) ?_ ?_
             rotate_left
             ·intro z7
              refine join_ (σ:=Nat) 8 (ba 25 2227967) (fun s_=>[(13,.pointer (some ⟨s_,0,none⟩))]) (fun s_ w'=>(w'.cell? (b2.add ((b0).toNat * 2)) = some (.int .i64 ((rd_T23 l2 b0).f0)) ∧ w'.cell? ⟨(b2.add ((b0).toNat * 2)).block,(b2.add ((b0).toNat * 2)).off + 1,none⟩ = some (.int .i64 ((rd_T23 l2 b0).f1)) ∧ w'.cell? (b2.add ((b1).toNat * 2)) = some (.int .i64 ((rd_T23 l2 b1).f0)) ∧ w'.cell? ⟨(b2.add ((b1).toNat * 2)).block,(b2.add ((b1).toNat * 2)).off + 1,none⟩ = some (.int .i64 ((rd_T23 l2 b1).f1)) ∧ w'.cell? (d6.add (b0).toNat) = some (.int .i64 (rd l0 b0)) ∧ w'.cell? (d6.add (b1).toNat) = some (.int .i64 (rd l0 b1))) ∧ (w'.heap[d4]? = some (.cells #[.int .i64 e8,.int .i64 e7] 51 (0,0))) ∧ (w'.heap[d5]? = some (.cells #[.slice (some d6) l0.length c0,.int .i64 a1] 94 (0,0))) ∧ (w'.heap[s_]? = some (.cells #[.int .i64 0,.int .i64 0] 23 (0,0))) ∧ (w.heap.size ≤ s_) ∧ (w.heap.size ≤ s_) ∧ (d4 ≠ s_) ∧ (s_ ≠ d4) ∧ (d5 ≠ s_) ∧ (s_ ≠ d5) ∧ (Below w.heap.size w w')) ?_ ?_
              rotate_left
              ·intro t9
               refine join_ (σ:=Nat) 8 (ba 25 4325119) (fun s_=>[(14,.pointer (some ⟨s_,0,none⟩))]) (fun s_ w'=>(w'.cell? (b2.add ((b0).toNat * 2)) = some (.int .i64 ((rd_T23 l2 b0).f0)) ∧ w'.cell? ⟨(b2.add ((b0).toNat * 2)).block,(b2.add ((b0).toNat * 2)).off + 1,none⟩ = some (.int .i64 ((rd_T23 l2 b0).f1)) ∧ w'.cell? (b2.add ((b1).toNat * 2)) = some (.int .i64 ((rd_T23 l2 b1).f0)) ∧ w'.cell? ⟨(b2.add ((b1).toNat * 2)).block,(b2.add ((b1).toNat * 2)).off + 1,none⟩ = some (.int .i64 ((rd_T23 l2 b1).f1)) ∧ w'.cell? (d6.add (b0).toNat) = some (.int .i64 (rd l0 b0)) ∧ w'.cell? (d6.add (b1).toNat) = some (.int .i64 (rd l0 b1))) ∧ (w'.heap[d4]? = some (.cells #[.int .i64 e8,.int .i64 e7] 51 (0,0))) ∧ (w'.heap[d5]? = some (.cells #[.slice (some d6) l0.length c0,.int .i64 a1] 94 (0,0))) ∧ (w'.heap[s_]? = some (.cells #[.int .i64 0,.int .i64 0] 23 (0,0))) ∧ (w.heap.size ≤ s_) ∧ (w.heap.size ≤ s_) ∧ (d4 ≠ s_) ∧ (s_ ≠ d4) ∧ (d5 ≠ s_) ∧ (s_ ≠ d5) ∧ (Below w.heap.size w w')) ?_ ?_
               rotate_left
               ·intro x1
                refine three_ (i:=8) (j:=21) (k:=22) (Ni:=some 51) (Nj:=some 13) (Nk:=some 14) (ba 25 131071) (ba 25 2227967) (ba 25 4325119) rfl rfl rfl rfl rfl rfl (three_of HT_.out (by kernel_rfl)) (by decide) (by decide) (by decide) (fun K hK=>?_) (fun K hK=>?_) (fun K hK=>?_)
                ·skip
                 refine gq Try.func88 #[.agg #[.int .i64 ((rd_T23 l2 b0).f0),.int .i64 ((rd_T23 l2 b0).f1)],.agg #[.int .i64 ((rd_T23 l2 b1).f0),.int .i64 ((rd_T23 l2 b1).f1)]] ?_
                 with_reducible refine (shares_add.calls k2 ((rd_T23 l2 b0).f0) ((rd_T23 l2 b0).f1) ((rd_T23 l2 b1).f0) ((rd_T23 l2 b1).f1) h7 h8 _ t1.out).mono ?_
                 rintro e Q7 ⟨rfl,hb⟩
                 refine ⟨_,rfl,?_⟩
                 replace b3:=kB b3 hb
                 replace b4:=kB b4 hb
                 replace HB:=bB HB hb
                 (try clear hb)
                 refine hK.out _ _ ⟨((HB.out.cell (World.block_lt_of_cell? w _ b8)).trans b8),((HB.out.cell (World.block_lt_of_cell? w _ b7)).trans b7),((HB.out.cell (World.block_lt_of_cell? w _ c1)).trans c1),((HB.out.cell (World.block_lt_of_cell? w _ b9)).trans b9),((HB.out.cell (World.block_lt_of_cell? w _ d0)).trans d0),((HB.out.cell (World.block_lt_of_cell? w _ d1)).trans d1)⟩ (fun hHeld=>?_)
                 clear hK K
                 refine nq 51 ?_
                 exact norm_ (by first | (simp only [putAll,Act.put,List.setIfInBounds_toArray,List.set_cons_zero,List.set_cons_succ];done) | (simp only [putAll,Act.put,List.setIfInBounds_toArray,List.set_cons_zero,List.set_cons_succ];rfl)) (z7 () _ ⟨hHeld,(kb b3),(kb b4),(bl HB)⟩)
                ·skip
                 refine box_step ?hg (N:=13) ?hd (cs:=#[.int .i64 0,.int .i64 0]) (t:=23) ?hr ?_;(case hd=>rfl);(case hg=>rfl);(case hr=>first | (go_simp;done) | (go_simp;rfl))
                 intro b5 hg Q7 hbox hb
                 have e5:=A_ hbox
                 have d2:=gw hg HB
                 have h1:=d2
                 have d7:=nl hg b3
                 have e1:=ng hg b3
                 have d9:=nl hg b4
                 have e3:=ng hg b4
                 replace b3:=kB b3 hb
                 replace b4:=kB b4 hb
                 replace HB:=bB HB hb
                 clear hb hbox hg
                 refine hK.out _ _ ⟨((HB.out.cell (World.block_lt_of_cell? w _ b8)).trans b8),((HB.out.cell (World.block_lt_of_cell? w _ b7)).trans b7),((HB.out.cell (World.block_lt_of_cell? w _ c1)).trans c1),((HB.out.cell (World.block_lt_of_cell? w _ b9)).trans b9),((HB.out.cell (World.block_lt_of_cell? w _ d0)).trans d0),((HB.out.cell (World.block_lt_of_cell? w _ d1)).trans d1)⟩ (fun hHeld=>?_)
                 clear hK K
                 refine nq 13 ?_
                 exact norm_ (by first | (simp only [putAll,Act.put,List.setIfInBounds_toArray,List.set_cons_zero,List.set_cons_succ];done) | (simp only [putAll,Act.put,List.setIfInBounds_toArray,List.set_cons_zero,List.set_cons_succ];rfl)) (t9 (b5) _ ⟨hHeld,(kb b3),(kb b4),(kb e5),d2.out,h1.out,d7.out,e1.out,d9.out,e3.out,(bl HB)⟩)
                skip
                refine box_step ?hg (N:=14) ?hd (cs:=#[.int .i64 0,.int .i64 0]) (t:=23) ?hr ?_;(case hd=>rfl);(case hg=>rfl);(case hr=>first | (go_simp;done) | (go_simp;rfl))
                intro b6 hg Q7 hbox hb
                have e6:=A_ hbox
                have d3:=gw hg HB
                have h2:=d3
                have d8:=nl hg b3
                have e2:=ng hg b3
                have e0:=nl hg b4
                have e4:=ng hg b4
                replace b3:=kB b3 hb
                replace b4:=kB b4 hb
                replace HB:=bB HB hb
                clear hb hbox hg
                refine hK.out _ _ ⟨((HB.out.cell (World.block_lt_of_cell? w _ b8)).trans b8),((HB.out.cell (World.block_lt_of_cell? w _ b7)).trans b7),((HB.out.cell (World.block_lt_of_cell? w _ c1)).trans c1),((HB.out.cell (World.block_lt_of_cell? w _ b9)).trans b9),((HB.out.cell (World.block_lt_of_cell? w _ d0)).trans d0),((HB.out.cell (World.block_lt_of_cell? w _ d1)).trans d1)⟩ (fun hHeld=>?_)
                clear hK K
                refine nq 14 ?_
                exact norm_ (by first | (simp only [putAll,Act.put,List.setIfInBounds_toArray,List.set_cons_zero,List.set_cons_succ];done) | (simp only [putAll,Act.put,List.setIfInBounds_toArray,List.set_cons_zero,List.set_cons_succ];rfl)) (x1 (b6) _ ⟨hHeld,(kb b3),(kb b4),(kb e6),d3.out,h2.out,d8.out,e2.out,e0.out,e4.out,(bl HB)⟩)
               skip
               rintro b6 q3 ⟨hS_,i9,j5,j7,j9,l5,l6,l7,l8,l9,m0⟩
               have e6:Aside0 (q3.heap[b6]? = some (.cells #[.int .i64 0,.int .i64 0] 23 (0,0))):=⟨j7⟩
               have d3:Aside0 (w.heap.size ≤ b6):=⟨j9⟩
               have h2:Aside0 (w.heap.size ≤ b6):=⟨l5⟩
               have d8:Aside0 (d4 ≠ b6):=⟨l6⟩
               have e2:Aside0 (b6 ≠ d4):=⟨l7⟩
               have e0:Aside0 (d5 ≠ b6):=⟨l8⟩
               have e4:Aside0 (b6 ≠ d5):=⟨l9⟩
               replace b3:Aside0 (q3.heap[d4]? = some (.cells #[.int .i64 e8,.int .i64 e7] 51 (0,0))):=⟨i9⟩
               replace b4:Aside0 (q3.heap[d5]? = some (.cells #[.slice (some d6) l0.length c0,.int .i64 a1] 94 (0,0))):=⟨j5⟩
               replace HB:Aside0 (Below w.heap.size w q3):=⟨m0⟩
               clear i9 j5 j7 j9 l5 l6 l7 l8 l9 m0
               have hHeld:q3.cell? (b2.add ((b0).toNat * 2)) = some (.int .i64 ((rd_T23 l2 b0).f0)) ∧ q3.cell? ⟨(b2.add ((b0).toNat * 2)).block,(b2.add ((b0).toNat * 2)).off + 1,none⟩ = some (.int .i64 ((rd_T23 l2 b0).f1)) ∧ q3.cell? (b2.add ((b1).toNat * 2)) = some (.int .i64 ((rd_T23 l2 b1).f0)) ∧ q3.cell? ⟨(b2.add ((b1).toNat * 2)).block,(b2.add ((b1).toNat * 2)).off + 1,none⟩ = some (.int .i64 ((rd_T23 l2 b1).f1)) ∧ q3.cell? (d6.add (b0).toNat) = some (.int .i64 (rd l0 b0)) ∧ q3.cell? (d6.add (b1).toNat) = some (.int .i64 (rd l0 b1)):=hS_
               refine norm_ (a':=?_) ?_ ?_
               rotate_left
               ·simp only [putAll,Act.put,List.setIfInBounds_toArray,List.set_cons_zero,List.set_cons_succ]
                rfl
               refine two_ (i:=8) (j:=21) (Ni:=some 51) (Nj:=some 13) (ba 25 4325375) (ba 25 6422271) rfl rfl rfl rfl (two_of HT_.out (by kernel_rfl)) (by decide) (by decide) (fun K hK=>?_) (fun K hK=>?_)
               ·skip
                refine gq Try.func88 #[.agg #[.int .i64 ((rd_T23 l2 b0).f0),.int .i64 ((rd_T23 l2 b0).f1)],.agg #[.int .i64 ((rd_T23 l2 b1).f0),.int .i64 ((rd_T23 l2 b1).f1)]] ?_
                with_reducible refine (shares_add.calls k2 ((rd_T23 l2 b0).f0) ((rd_T23 l2 b0).f1) ((rd_T23 l2 b1).f0) ((rd_T23 l2 b1).f1) h7 h8 _ t1.out).mono ?_
                rintro e o0 ⟨rfl,hb⟩
                refine ⟨_,rfl,?_⟩
                replace b3:=kB b3 hb
                replace b4:=kB b4 hb
                replace e6:=kB e6 hb
                replace HB:=bB HB hb
                (try clear hb)
                refine hK.out _ _ ⟨((HB.out.cell (World.block_lt_of_cell? w _ b8)).trans b8),((HB.out.cell (World.block_lt_of_cell? w _ b7)).trans b7),((HB.out.cell (World.block_lt_of_cell? w _ c1)).trans c1),((HB.out.cell (World.block_lt_of_cell? w _ b9)).trans b9),((HB.out.cell (World.block_lt_of_cell? w _ d0)).trans d0),((HB.out.cell (World.block_lt_of_cell? w _ d1)).trans d1)⟩ (fun hHeld=>?_)
                clear hK K
                refine nq 51 ?_
                exact norm_ (by first | (simp only [putAll,Act.put,List.setIfInBounds_toArray,List.set_cons_zero,List.set_cons_succ];done) | (simp only [putAll,Act.put,List.setIfInBounds_toArray,List.set_cons_zero,List.set_cons_succ];rfl)) (p6 (b6) _ ⟨hHeld,(kb b3),(kb b4),(kb e6),d3.out,h2.out,d8.out,e2.out,e0.out,e4.out,(bl HB)⟩)
               skip
               refine box_step ?hg (N:=13) ?hd (cs:=#[.int .i64 0,.int .i64 0]) (t:=23) ?hr ?_;(case hd=>rfl);(case hg=>rfl);(case hr=>first | (go_simp;done) | (go_simp;rfl))
               intro b5 hg o0 hbox hb
               have e5:=A_ hbox
               have d2:=gw hg HB
               have h1:=d2
               have d7:=nl hg b3
               have e1:=ng hg b3
               have d9:=nl hg b4
               have e3:=ng hg b4
               have e9:=nl hg e6
               have h0:=ng hg e6
               replace b3:=kB b3 hb
               replace b4:=kB b4 hb
               replace e6:=kB e6 hb
               replace HB:=bB HB hb
               clear hb hbox hg
               refine hK.out _ _ ⟨((HB.out.cell (World.block_lt_of_cell? w _ b8)).trans b8),((HB.out.cell (World.block_lt_of_cell? w _ b7)).trans b7),((HB.out.cell (World.block_lt_of_cell? w _ c1)).trans c1),((HB.out.cell (World.block_lt_of_cell? w _ b9)).trans b9),((HB.out.cell (World.block_lt_of_cell? w _ d0)).trans d0),((HB.out.cell (World.block_lt_of_cell? w _ d1)).trans d1)⟩ (fun hHeld=>?_)
               clear hK K
               refine nq 13 ?_
               exact norm_ (by first | (simp only [putAll,Act.put,List.setIfInBounds_toArray,List.set_cons_zero,List.set_cons_succ];done) | (simp only [putAll,Act.put,List.setIfInBounds_toArray,List.set_cons_zero,List.set_cons_succ];rfl)) (o2 (b5,b6) _ ⟨hHeld,(kb b3),(kb b4),(kb e5),(kb e6),d2.out,h1.out,d7.out,e1.out,d9.out,e3.out,e9.out,h0.out,d3.out,h2.out,d8.out,e2.out,e0.out,e4.out,(bl HB)⟩)
              skip
              rintro b5 q3 ⟨hS_,i9,j5,j7,j9,l5,l6,l7,l8,l9,m0⟩
              have e5:Aside0 (q3.heap[b5]? = some (.cells #[.int .i64 0,.int .i64 0] 23 (0,0))):=⟨j7⟩
              have d2:Aside0 (w.heap.size ≤ b5):=⟨j9⟩
              have h1:Aside0 (w.heap.size ≤ b5):=⟨l5⟩
              have d7:Aside0 (d4 ≠ b5):=⟨l6⟩
              have e1:Aside0 (b5 ≠ d4):=⟨l7⟩
              have d9:Aside0 (d5 ≠ b5):=⟨l8⟩
              have e3:Aside0 (b5 ≠ d5):=⟨l9⟩
              replace b3:Aside0 (q3.heap[d4]? = some (.cells #[.int .i64 e8,.int .i64 e7] 51 (0,0))):=⟨i9⟩
              replace b4:Aside0 (q3.heap[d5]? = some (.cells #[.slice (some d6) l0.length c0,.int .i64 a1] 94 (0,0))):=⟨j5⟩
              replace HB:Aside0 (Below w.heap.size w q3):=⟨m0⟩
              clear i9 j5 j7 j9 l5 l6 l7 l8 l9 m0
              have hHeld:q3.cell? (b2.add ((b0).toNat * 2)) = some (.int .i64 ((rd_T23 l2 b0).f0)) ∧ q3.cell? ⟨(b2.add ((b0).toNat * 2)).block,(b2.add ((b0).toNat * 2)).off + 1,none⟩ = some (.int .i64 ((rd_T23 l2 b0).f1)) ∧ q3.cell? (b2.add ((b1).toNat * 2)) = some (.int .i64 ((rd_T23 l2 b1).f0)) ∧ q3.cell? ⟨(b2.add ((b1).toNat * 2)).block,(b2.add ((b1).toNat * 2)).off + 1,none⟩ = some (.int .i64 ((rd_T23 l2 b1).f1)) ∧ q3.cell? (d6.add (b0).toNat) = some (.int .i64 (rd l0 b0)) ∧ q3.cell? (d6.add (b1).toNat) = some (.int .i64 (rd l0 b1)):=hS_
              refine norm_ (a':=?_) ?_ ?_
              rotate_left
              ·simp only [putAll,Act.put,List.setIfInBounds_toArray,List.set_cons_zero,List.set_cons_succ]
               rfl
              refine two_ (i:=8) (j:=22) (Ni:=some 51) (Nj:=some 14) (ba 25 2228223) (ba 25 6422271) rfl rfl rfl rfl (two_of HT_.out (by kernel_rfl)) (by decide) (by decide) (fun K hK=>?_) (fun K hK=>?_)
              ·skip
               refine gq Try.func88 #[.agg #[.int .i64 ((rd_T23 l2 b0).f0),.int .i64 ((rd_T23 l2 b0).f1)],.agg #[.int .i64 ((rd_T23 l2 b1).f0),.int .i64 ((rd_T23 l2 b1).f1)]] ?_
               with_reducible refine (shares_add.calls k2 ((rd_T23 l2 b0).f0) ((rd_T23 l2 b0).f1) ((rd_T23 l2 b1).f0) ((rd_T23 l2 b1).f1) h7 h8 _ t1.out).mono ?_
               rintro e o0 ⟨rfl,hb⟩
               refine ⟨_,rfl,?_⟩
               replace b3:=kB b3 hb
               replace b4:=kB b4 hb
               replace e5:=kB e5 hb
               replace HB:=bB HB hb
               (try clear hb)
               refine hK.out _ _ ⟨((HB.out.cell (World.block_lt_of_cell? w _ b8)).trans b8),((HB.out.cell (World.block_lt_of_cell? w _ b7)).trans b7),((HB.out.cell (World.block_lt_of_cell? w _ c1)).trans c1),((HB.out.cell (World.block_lt_of_cell? w _ b9)).trans b9),((HB.out.cell (World.block_lt_of_cell? w _ d0)).trans d0),((HB.out.cell (World.block_lt_of_cell? w _ d1)).trans d1)⟩ (fun hHeld=>?_)
               clear hK K
               refine nq 51 ?_
               exact norm_ (by first | (simp only [putAll,Act.put,List.setIfInBounds_toArray,List.set_cons_zero,List.set_cons_succ];done) | (simp only [putAll,Act.put,List.setIfInBounds_toArray,List.set_cons_zero,List.set_cons_succ];rfl)) (p5 (b5) _ ⟨hHeld,(kb b3),(kb b4),(kb e5),d2.out,h1.out,d7.out,e1.out,d9.out,e3.out,(bl HB)⟩)
              skip
              refine box_step ?hg (N:=14) ?hd (cs:=#[.int .i64 0,.int .i64 0]) (t:=23) ?hr ?_;(case hd=>rfl);(case hg=>rfl);(case hr=>first | (go_simp;done) | (go_simp;rfl))
              intro b6 hg o0 hbox hb
              have e6:=A_ hbox
              have d3:=gw hg HB
              have h2:=d3
              have d8:=nl hg b3
              have e2:=ng hg b3
              have e0:=nl hg b4
              have e4:=ng hg b4
              have h0:=nl hg e5
              have e9:=ng hg e5
              replace b3:=kB b3 hb
              replace b4:=kB b4 hb
              replace e5:=kB e5 hb
              replace HB:=bB HB hb
              clear hb hbox hg
              refine hK.out _ _ ⟨((HB.out.cell (World.block_lt_of_cell? w _ b8)).trans b8),((HB.out.cell (World.block_lt_of_cell? w _ b7)).trans b7),((HB.out.cell (World.block_lt_of_cell? w _ c1)).trans c1),((HB.out.cell (World.block_lt_of_cell? w _ b9)).trans b9),((HB.out.cell (World.block_lt_of_cell? w _ d0)).trans d0),((HB.out.cell (World.block_lt_of_cell? w _ d1)).trans d1)⟩ (fun hHeld=>?_)
              clear hK K
              refine nq 14 ?_
              exact norm_ (by first | (simp only [putAll,Act.put,List.setIfInBounds_toArray,List.set_cons_zero,List.set_cons_succ];done) | (simp only [putAll,Act.put,List.setIfInBounds_toArray,List.set_cons_zero,List.set_cons_succ];rfl)) (o2 (b5,b6) _ ⟨hHeld,(kb b3),(kb b4),(kb e5),(kb e6),d2.out,h1.out,d7.out,e1.out,d9.out,e3.out,e9.out,h0.out,d3.out,h2.out,d8.out,e2.out,e0.out,e4.out,(bl HB)⟩)
             skip
             rintro _ q3 ⟨hS_,i9,j5,j7⟩
             replace b3:Aside0 (q3.heap[d4]? = some (.cells #[.int .i64 e8,.int .i64 e7] 51 (0,0))):=⟨i9⟩
             replace b4:Aside0 (q3.heap[d5]? = some (.cells #[.slice (some d6) l0.length c0,.int .i64 a1] 94 (0,0))):=⟨j5⟩
             replace HB:Aside0 (Below w.heap.size w q3):=⟨j7⟩
             clear i9 j5 j7
             have hHeld:q3.cell? (b2.add ((b0).toNat * 2)) = some (.int .i64 ((rd_T23 l2 b0).f0)) ∧ q3.cell? ⟨(b2.add ((b0).toNat * 2)).block,(b2.add ((b0).toNat * 2)).off + 1,none⟩ = some (.int .i64 ((rd_T23 l2 b0).f1)) ∧ q3.cell? (b2.add ((b1).toNat * 2)) = some (.int .i64 ((rd_T23 l2 b1).f0)) ∧ q3.cell? ⟨(b2.add ((b1).toNat * 2)).block,(b2.add ((b1).toNat * 2)).off + 1,none⟩ = some (.int .i64 ((rd_T23 l2 b1).f1)) ∧ q3.cell? (d6.add (b0).toNat) = some (.int .i64 (rd l0 b0)) ∧ q3.cell? (d6.add (b1).toNat) = some (.int .i64 (rd l0 b1)):=hS_
             refine norm_ (a':=?_) ?_ ?_
             rotate_left
             ·simp only [putAll,Act.put,List.setIfInBounds_toArray,List.set_cons_zero,List.set_cons_succ]
              rfl
             refine three_ (i:=17) (j:=21) (k:=22) (Ni:=some 60) (Nj:=some 13) (Nk:=some 14) (ba 25 262143) (ba 25 2228223) (ba 25 4325375) rfl rfl rfl rfl rfl rfl (three_of HT_.out (by kernel_rfl)) (by decide) (by decide) (by decide) (fun K hK=>?_) (fun K hK=>?_) (fun K hK=>?_)
             ·skip
              refine gq Try.func63 #[.agg #[.int .i64 h7,.int .i64 h8],.int .i64 (rd l0 b0),.int .i64 (rd l0 b1)] ?_
              with_reducible refine (shares_garment.calls k2 h7 h8 (rd l0 b0) (rd l0 b1) h3 h5 h4 h6 _ t2.out).mono ?_
              rintro e o0 ⟨rfl,hb⟩
              refine ⟨_,rfl,?_⟩
              replace b3:=kB b3 hb
              replace b4:=kB b4 hb
              replace HB:=bB HB hb
              (try clear hb)
              refine hK.out _ _ ⟨((HB.out.cell (World.block_lt_of_cell? w _ b8)).trans b8),((HB.out.cell (World.block_lt_of_cell? w _ b7)).trans b7),((HB.out.cell (World.block_lt_of_cell? w _ c1)).trans c1),((HB.out.cell (World.block_lt_of_cell? w _ b9)).trans b9),((HB.out.cell (World.block_lt_of_cell? w _ d0)).trans d0),((HB.out.cell (World.block_lt_of_cell? w _ d1)).trans d1)⟩ (fun hHeld=>?_)
              clear hK K
              refine nq 60 ?_
              refine pq 18 42 524287 HT_ ?_
              refine pq 19 61 1048575 HT_ ?_
              refine pq 20 62 2097151 HT_ ?_
              exact norm_ (by first | (simp only [putAll,Act.put,List.setIfInBounds_toArray,List.set_cons_zero,List.set_cons_succ];done) | (simp only [putAll,Act.put,List.setIfInBounds_toArray,List.set_cons_zero,List.set_cons_succ];rfl)) (r5 () _ ⟨hHeld,(kb b3),(kb b4),(bl HB)⟩)
             ·skip
              refine box_step ?hg (N:=13) ?hd (cs:=#[.int .i64 0,.int .i64 0]) (t:=23) ?hr ?_;(case hd=>rfl);(case hg=>rfl);(case hr=>first | (go_simp;done) | (go_simp;rfl))
              intro b5 hg o0 hbox hb
              have e5:=A_ hbox
              have d2:=gw hg HB
              have h1:=d2
              have d7:=nl hg b3
              have e1:=ng hg b3
              have d9:=nl hg b4
              have e3:=ng hg b4
              replace b3:=kB b3 hb
              replace b4:=kB b4 hb
              replace HB:=bB HB hb
              clear hb hbox hg
              refine hK.out _ _ ⟨((HB.out.cell (World.block_lt_of_cell? w _ b8)).trans b8),((HB.out.cell (World.block_lt_of_cell? w _ b7)).trans b7),((HB.out.cell (World.block_lt_of_cell? w _ c1)).trans c1),((HB.out.cell (World.block_lt_of_cell? w _ b9)).trans b9),((HB.out.cell (World.block_lt_of_cell? w _ d0)).trans d0),((HB.out.cell (World.block_lt_of_cell? w _ d1)).trans d1)⟩ (fun hHeld=>?_)
              clear hK K
              refine nq 13 ?_
              exact norm_ (by first | (simp only [putAll,Act.put,List.setIfInBounds_toArray,List.set_cons_zero,List.set_cons_succ];done) | (simp only [putAll,Act.put,List.setIfInBounds_toArray,List.set_cons_zero,List.set_cons_succ];rfl)) (p5 (b5) _ ⟨hHeld,(kb b3),(kb b4),(kb e5),d2.out,h1.out,d7.out,e1.out,d9.out,e3.out,(bl HB)⟩)
             skip
             refine box_step ?hg (N:=14) ?hd (cs:=#[.int .i64 0,.int .i64 0]) (t:=23) ?hr ?_;(case hd=>rfl);(case hg=>rfl);(case hr=>first | (go_simp;done) | (go_simp;rfl))
             intro b6 hg o0 hbox hb
             have e6:=A_ hbox
             have d3:=gw hg HB
             have h2:=d3
             have d8:=nl hg b3
             have e2:=ng hg b3
             have e0:=nl hg b4
             have e4:=ng hg b4
             replace b3:=kB b3 hb
             replace b4:=kB b4 hb
             replace HB:=bB HB hb
             clear hb hbox hg
             refine hK.out _ _ ⟨((HB.out.cell (World.block_lt_of_cell? w _ b8)).trans b8),((HB.out.cell (World.block_lt_of_cell? w _ b7)).trans b7),((HB.out.cell (World.block_lt_of_cell? w _ c1)).trans c1),((HB.out.cell (World.block_lt_of_cell? w _ b9)).trans b9),((HB.out.cell (World.block_lt_of_cell? w _ d0)).trans d0),((HB.out.cell (World.block_lt_of_cell? w _ d1)).trans d1)⟩ (fun hHeld=>?_)
             clear hK K
             refine nq 14 ?_
             exact norm_ (by first | (simp only [putAll,Act.put,List.setIfInBounds_toArray,List.set_cons_zero,List.set_cons_succ];done) | (simp only [putAll,Act.put,List.setIfInBounds_toArray,List.set_cons_zero,List.set_cons_succ];rfl)) (p6 (b6) _ ⟨hHeld,(kb b3),(kb b4),(kb e6),d3.out,h2.out,d8.out,e2.out,e0.out,e4.out,(bl HB)⟩)
            skip
            rintro ⟨b5,b6⟩ o0 ⟨hS_,i9,j5,j7,j9,l5,l6,l7,l8,l9,m0,m7,m8,m9,n0,n1,n2,n3,n4,n5⟩
            have e5:Aside0 (o0.heap[b5]? = some (.cells #[.int .i64 0,.int .i64 0] 23 (0,0))):=⟨j7⟩
            have e6:Aside0 (o0.heap[b6]? = some (.cells #[.int .i64 0,.int .i64 0] 23 (0,0))):=⟨j9⟩
            have d2:Aside0 (w.heap.size ≤ b5):=⟨l5⟩
            have h1:Aside0 (w.heap.size ≤ b5):=⟨l6⟩
            have d7:Aside0 (d4 ≠ b5):=⟨l7⟩
            have e1:Aside0 (b5 ≠ d4):=⟨l8⟩
            have d9:Aside0 (d5 ≠ b5):=⟨l9⟩
            have e3:Aside0 (b5 ≠ d5):=⟨m0⟩
            have e9:Aside0 (b6 ≠ b5):=⟨m7⟩
            have h0:Aside0 (b5 ≠ b6):=⟨m8⟩
            have d3:Aside0 (w.heap.size ≤ b6):=⟨m9⟩
            have h2:Aside0 (w.heap.size ≤ b6):=⟨n0⟩
            have d8:Aside0 (d4 ≠ b6):=⟨n1⟩
            have e2:Aside0 (b6 ≠ d4):=⟨n2⟩
            have e0:Aside0 (d5 ≠ b6):=⟨n3⟩
            have e4:Aside0 (b6 ≠ d5):=⟨n4⟩
            replace b3:Aside0 (o0.heap[d4]? = some (.cells #[.int .i64 e8,.int .i64 e7] 51 (0,0))):=⟨i9⟩
            replace b4:Aside0 (o0.heap[d5]? = some (.cells #[.slice (some d6) l0.length c0,.int .i64 a1] 94 (0,0))):=⟨j5⟩
            replace HB:Aside0 (Below w.heap.size w o0):=⟨n5⟩
            clear i9 j5 j7 j9 l5 l6 l7 l8 l9 m0 m7 m8 m9 n0 n1 n2 n3 n4 n5
            have hHeld:o0.cell? (b2.add ((b0).toNat * 2)) = some (.int .i64 ((rd_T23 l2 b0).f0)) ∧ o0.cell? ⟨(b2.add ((b0).toNat * 2)).block,(b2.add ((b0).toNat * 2)).off + 1,none⟩ = some (.int .i64 ((rd_T23 l2 b0).f1)) ∧ o0.cell? (b2.add ((b1).toNat * 2)) = some (.int .i64 ((rd_T23 l2 b1).f0)) ∧ o0.cell? ⟨(b2.add ((b1).toNat * 2)).block,(b2.add ((b1).toNat * 2)).off + 1,none⟩ = some (.int .i64 ((rd_T23 l2 b1).f1)) ∧ o0.cell? (d6.add (b0).toNat) = some (.int .i64 (rd l0 b0)) ∧ o0.cell? (d6.add (b1).toNat) = some (.int .i64 (rd l0 b1)):=hS_
            refine norm_ (a':=?_) ?_ ?_
            rotate_left
            ·simp only [putAll,Act.put,List.setIfInBounds_toArray,List.set_cons_zero,List.set_cons_succ]
             rfl
            refine oq 8 51 6422527 HT_ (fun K hK=>?_)
            refine gq Try.func88 #[.agg #[.int .i64 ((rd_T23 l2 b0).f0),.int .i64 ((rd_T23 l2 b0).f1)],.agg #[.int .i64 ((rd_T23 l2 b1).f0),.int .i64 ((rd_T23 l2 b1).f1)]] ?_
            with_reducible refine (shares_add.calls k2 ((rd_T23 l2 b0).f0) ((rd_T23 l2 b0).f1) ((rd_T23 l2 b1).f0) ((rd_T23 l2 b1).f1) h7 h8 _ t1.out).mono ?_
            rintro e o5 ⟨rfl,hb⟩
            refine ⟨_,rfl,?_⟩
            replace b3:=kB b3 hb
            replace b4:=kB b4 hb
            replace e5:=kB e5 hb
            replace e6:=kB e6 hb
            replace HB:=bB HB hb
            (try clear hb)
            refine hK.out _ _ ⟨((HB.out.cell (World.block_lt_of_cell? w _ b8)).trans b8),((HB.out.cell (World.block_lt_of_cell? w _ b7)).trans b7),((HB.out.cell (World.block_lt_of_cell? w _ c1)).trans c1),((HB.out.cell (World.block_lt_of_cell? w _ b9)).trans b9),((HB.out.cell (World.block_lt_of_cell? w _ d0)).trans d0),((HB.out.cell (World.block_lt_of_cell? w _ d1)).trans d1)⟩ (fun hHeld=>?_)
            clear hK K
            refine nq 51 ?_
            exact norm_ (by first | (simp only [putAll,Act.put,List.setIfInBounds_toArray,List.set_cons_zero,List.set_cons_succ];done) | (simp only [putAll,Act.put,List.setIfInBounds_toArray,List.set_cons_zero,List.set_cons_succ];rfl)) (j8 (b5,b6) _ ⟨hHeld,(kb b3),(kb b4),(kb e5),(kb e6),d2.out,h1.out,d7.out,e1.out,d9.out,e3.out,e9.out,h0.out,d3.out,h2.out,d8.out,e2.out,e0.out,e4.out,(bl HB)⟩)
           skip
           rintro b6 o0 ⟨hS_,i9,j5,j7,j9,l5,l6,l7,l8,l9,m0⟩
           have e6:Aside0 (o0.heap[b6]? = some (.cells #[.int .i64 0,.int .i64 0] 23 (0,0))):=⟨j7⟩
           have d3:Aside0 (w.heap.size ≤ b6):=⟨j9⟩
           have h2:Aside0 (w.heap.size ≤ b6):=⟨l5⟩
           have d8:Aside0 (d4 ≠ b6):=⟨l6⟩
           have e2:Aside0 (b6 ≠ d4):=⟨l7⟩
           have e0:Aside0 (d5 ≠ b6):=⟨l8⟩
           have e4:Aside0 (b6 ≠ d5):=⟨l9⟩
           replace b3:Aside0 (o0.heap[d4]? = some (.cells #[.int .i64 e8,.int .i64 e7] 51 (0,0))):=⟨i9⟩
           replace b4:Aside0 (o0.heap[d5]? = some (.cells #[.slice (some d6) l0.length c0,.int .i64 a1] 94 (0,0))):=⟨j5⟩
           replace HB:Aside0 (Below w.heap.size w o0):=⟨m0⟩
           clear i9 j5 j7 j9 l5 l6 l7 l8 l9 m0
           have hHeld:o0.cell? (b2.add ((b0).toNat * 2)) = some (.int .i64 ((rd_T23 l2 b0).f0)) ∧ o0.cell? ⟨(b2.add ((b0).toNat * 2)).block,(b2.add ((b0).toNat * 2)).off + 1,none⟩ = some (.int .i64 ((rd_T23 l2 b0).f1)) ∧ o0.cell? (b2.add ((b1).toNat * 2)) = some (.int .i64 ((rd_T23 l2 b1).f0)) ∧ o0.cell? ⟨(b2.add ((b1).toNat * 2)).block,(b2.add ((b1).toNat * 2)).off + 1,none⟩ = some (.int .i64 ((rd_T23 l2 b1).f1)) ∧ o0.cell? (d6.add (b0).toNat) = some (.int .i64 (rd l0 b0)) ∧ o0.cell? (d6.add (b1).toNat) = some (.int .i64 (rd l0 b1)):=hS_
           refine norm_ (a':=?_) ?_ ?_
           rotate_left
           ·simp only [putAll,Act.put,List.setIfInBounds_toArray,List.set_cons_zero,List.set_cons_succ]
            rfl
           refine two_ (i:=17) (j:=21) (Ni:=some 60) (Nj:=some 13) (ba 25 4456447) (ba 25 6422527) rfl rfl rfl rfl (two_of HT_.out (by kernel_rfl)) (by decide) (by decide) (fun K hK=>?_) (fun K hK=>?_)
           ·skip
            refine gq Try.func63 #[.agg #[.int .i64 h7,.int .i64 h8],.int .i64 (rd l0 b0),.int .i64 (rd l0 b1)] ?_
            with_reducible refine (shares_garment.calls k2 h7 h8 (rd l0 b0) (rd l0 b1) h3 h5 h4 h6 _ t2.out).mono ?_
            rintro e o5 ⟨rfl,hb⟩
            refine ⟨_,rfl,?_⟩
            replace b3:=kB b3 hb
            replace b4:=kB b4 hb
            replace e6:=kB e6 hb
            replace HB:=bB HB hb
            (try clear hb)
            refine hK.out _ _ ⟨((HB.out.cell (World.block_lt_of_cell? w _ b8)).trans b8),((HB.out.cell (World.block_lt_of_cell? w _ b7)).trans b7),((HB.out.cell (World.block_lt_of_cell? w _ c1)).trans c1),((HB.out.cell (World.block_lt_of_cell? w _ b9)).trans b9),((HB.out.cell (World.block_lt_of_cell? w _ d0)).trans d0),((HB.out.cell (World.block_lt_of_cell? w _ d1)).trans d1)⟩ (fun hHeld=>?_)
            clear hK K
            refine nq 60 ?_
            refine pq 18 42 4718591 HT_ ?_
            refine pq 19 61 5242879 HT_ ?_
            refine pq 20 62 6291455 HT_ ?_
            exact norm_ (by first | (simp only [putAll,Act.put,List.setIfInBounds_toArray,List.set_cons_zero,List.set_cons_succ];done) | (simp only [putAll,Act.put,List.setIfInBounds_toArray,List.set_cons_zero,List.set_cons_succ];rfl)) (m5 (b6) _ ⟨hHeld,(kb b3),(kb b4),(kb e6),d3.out,h2.out,d8.out,e2.out,e0.out,e4.out,(bl HB)⟩)
           skip
           refine box_step ?hg (N:=13) ?hd (cs:=#[.int .i64 0,.int .i64 0]) (t:=23) ?hr ?_;(case hd=>rfl);(case hg=>rfl);(case hr=>first | (go_simp;done) | (go_simp;rfl))
           intro b5 hg o5 hbox hb
           have e5:=A_ hbox
           have d2:=gw hg HB
           have h1:=d2
           have d7:=nl hg b3
           have e1:=ng hg b3
           have d9:=nl hg b4
           have e3:=ng hg b4
           have e9:=nl hg e6
           have h0:=ng hg e6
           replace b3:=kB b3 hb
           replace b4:=kB b4 hb
           replace e6:=kB e6 hb
           replace HB:=bB HB hb
           clear hb hbox hg
           refine hK.out _ _ ⟨((HB.out.cell (World.block_lt_of_cell? w _ b8)).trans b8),((HB.out.cell (World.block_lt_of_cell? w _ b7)).trans b7),((HB.out.cell (World.block_lt_of_cell? w _ c1)).trans c1),((HB.out.cell (World.block_lt_of_cell? w _ b9)).trans b9),((HB.out.cell (World.block_lt_of_cell? w _ d0)).trans d0),((HB.out.cell (World.block_lt_of_cell? w _ d1)).trans d1)⟩ (fun hHeld=>?_)
           clear hK K
           refine nq 13 ?_
           exact norm_ (by first | (simp only [putAll,Act.put,List.setIfInBounds_toArray,List.set_cons_zero,List.set_cons_succ];done) | (simp only [putAll,Act.put,List.setIfInBounds_toArray,List.set_cons_zero,List.set_cons_succ];rfl)) (j8 (b5,b6) _ ⟨hHeld,(kb b3),(kb b4),(kb e5),(kb e6),d2.out,h1.out,d7.out,e1.out,d9.out,e3.out,e9.out,h0.out,d3.out,h2.out,d8.out,e2.out,e0.out,e4.out,(bl HB)⟩)
          skip
          rintro b5 o0 ⟨hS_,i9,j5,j7,j9,l5,l6,l7,l8,l9,m0⟩
          have e5:Aside0 (o0.heap[b5]? = some (.cells #[.int .i64 0,.int .i64 0] 23 (0,0))):=⟨j7⟩
          have d2:Aside0 (w.heap.size ≤ b5):=⟨j9⟩
          have h1:Aside0 (w.heap.size ≤ b5):=⟨l5⟩
          have d7:Aside0 (d4 ≠ b5):=⟨l6⟩
          have e1:Aside0 (b5 ≠ d4):=⟨l7⟩
          have d9:Aside0 (d5 ≠ b5):=⟨l8⟩
          have e3:Aside0 (b5 ≠ d5):=⟨l9⟩
          replace b3:Aside0 (o0.heap[d4]? = some (.cells #[.int .i64 e8,.int .i64 e7] 51 (0,0))):=⟨i9⟩
          replace b4:Aside0 (o0.heap[d5]? = some (.cells #[.slice (some d6) l0.length c0,.int .i64 a1] 94 (0,0))):=⟨j5⟩
          replace HB:Aside0 (Below w.heap.size w o0):=⟨m0⟩
          clear i9 j5 j7 j9 l5 l6 l7 l8 l9 m0
          have hHeld:o0.cell? (b2.add ((b0).toNat * 2)) = some (.int .i64 ((rd_T23 l2 b0).f0)) ∧ o0.cell? ⟨(b2.add ((b0).toNat * 2)).block,(b2.add ((b0).toNat * 2)).off + 1,none⟩ = some (.int .i64 ((rd_T23 l2 b0).f1)) ∧ o0.cell? (b2.add ((b1).toNat * 2)) = some (.int .i64 ((rd_T23 l2 b1).f0)) ∧ o0.cell? ⟨(b2.add ((b1).toNat * 2)).block,(b2.add ((b1).toNat * 2)).off + 1,none⟩ = some (.int .i64 ((rd_T23 l2 b1).f1)) ∧ o0.cell? (d6.add (b0).toNat) = some (.int .i64 (rd l0 b0)) ∧ o0.cell? (d6.add (b1).toNat) = some (.int .i64 (rd l0 b1)):=hS_
          refine norm_ (a':=?_) ?_ ?_
          rotate_left
          ·simp only [putAll,Act.put,List.setIfInBounds_toArray,List.set_cons_zero,List.set_cons_succ]
           rfl
          refine two_ (i:=17) (j:=22) (Ni:=some 60) (Nj:=some 14) (ba 25 2359295) (ba 25 6422527) rfl rfl rfl rfl (two_of HT_.out (by kernel_rfl)) (by decide) (by decide) (fun K hK=>?_) (fun K hK=>?_)
          ·skip
           refine gq Try.func63 #[.agg #[.int .i64 h7,.int .i64 h8],.int .i64 (rd l0 b0),.int .i64 (rd l0 b1)] ?_
           with_reducible refine (shares_garment.calls k2 h7 h8 (rd l0 b0) (rd l0 b1) h3 h5 h4 h6 _ t2.out).mono ?_
           rintro e o5 ⟨rfl,hb⟩
           refine ⟨_,rfl,?_⟩
           replace b3:=kB b3 hb
           replace b4:=kB b4 hb
           replace e5:=kB e5 hb
           replace HB:=bB HB hb
           (try clear hb)
           refine hK.out _ _ ⟨((HB.out.cell (World.block_lt_of_cell? w _ b8)).trans b8),((HB.out.cell (World.block_lt_of_cell? w _ b7)).trans b7),((HB.out.cell (World.block_lt_of_cell? w _ c1)).trans c1),((HB.out.cell (World.block_lt_of_cell? w _ b9)).trans b9),((HB.out.cell (World.block_lt_of_cell? w _ d0)).trans d0),((HB.out.cell (World.block_lt_of_cell? w _ d1)).trans d1)⟩ (fun hHeld=>?_)
           clear hK K
           refine nq 60 ?_
           refine pq 18 42 2621439 HT_ ?_
           refine pq 19 61 3145727 HT_ ?_
           refine pq 20 62 4194303 HT_ ?_
           exact norm_ (by first | (simp only [putAll,Act.put,List.setIfInBounds_toArray,List.set_cons_zero,List.set_cons_succ];done) | (simp only [putAll,Act.put,List.setIfInBounds_toArray,List.set_cons_zero,List.set_cons_succ];rfl)) (m4 (b5) _ ⟨hHeld,(kb b3),(kb b4),(kb e5),d2.out,h1.out,d7.out,e1.out,d9.out,e3.out,(bl HB)⟩)
          skip
          refine box_step ?hg (N:=14) ?hd (cs:=#[.int .i64 0,.int .i64 0]) (t:=23) ?hr ?_;(case hd=>rfl);(case hg=>rfl);(case hr=>first | (go_simp;done) | (go_simp;rfl))
          intro b6 hg o5 hbox hb
          have e6:=A_ hbox
          have d3:=gw hg HB
          have h2:=d3
          have d8:=nl hg b3
          have e2:=ng hg b3
          have e0:=nl hg b4
          have e4:=ng hg b4
          have h0:=nl hg e5
          have e9:=ng hg e5
          replace b3:=kB b3 hb
          replace b4:=kB b4 hb
          replace e5:=kB e5 hb
          replace HB:=bB HB hb
          clear hb hbox hg
          refine hK.out _ _ ⟨((HB.out.cell (World.block_lt_of_cell? w _ b8)).trans b8),((HB.out.cell (World.block_lt_of_cell? w _ b7)).trans b7),((HB.out.cell (World.block_lt_of_cell? w _ c1)).trans c1),((HB.out.cell (World.block_lt_of_cell? w _ b9)).trans b9),((HB.out.cell (World.block_lt_of_cell? w _ d0)).trans d0),((HB.out.cell (World.block_lt_of_cell? w _ d1)).trans d1)⟩ (fun hHeld=>?_)
          clear hK K
          refine nq 14 ?_
          exact norm_ (by first | (simp only [putAll,Act.put,List.setIfInBounds_toArray,List.set_cons_zero,List.set_cons_succ];done) | (simp only [putAll,Act.put,List.setIfInBounds_toArray,List.set_cons_zero,List.set_cons_succ];rfl)) (j8 (b5,b6) _ ⟨hHeld,(kb b3),(kb b4),(kb e5),(kb e6),d2.out,h1.out,d7.out,e1.out,d9.out,e3.out,e9.out,h0.out,d3.out,h2.out,d8.out,e2.out,e0.out,e4.out,(bl HB)⟩)
         skip
         rintro _ o0 ⟨hS_,i9,j5,j7⟩
         replace b3:Aside0 (o0.heap[d4]? = some (.cells #[.int .i64 e8,.int .i64 e7] 51 (0,0))):=⟨i9⟩
         replace b4:Aside0 (o0.heap[d5]? = some (.cells #[.slice (some d6) l0.length c0,.int .i64 a1] 94 (0,0))):=⟨j5⟩
         replace HB:Aside0 (Below w.heap.size w o0):=⟨j7⟩
         clear i9 j5 j7
         have hHeld:o0.cell? (b2.add ((b0).toNat * 2)) = some (.int .i64 ((rd_T23 l2 b0).f0)) ∧ o0.cell? ⟨(b2.add ((b0).toNat * 2)).block,(b2.add ((b0).toNat * 2)).off + 1,none⟩ = some (.int .i64 ((rd_T23 l2 b0).f1)) ∧ o0.cell? (b2.add ((b1).toNat * 2)) = some (.int .i64 ((rd_T23 l2 b1).f0)) ∧ o0.cell? ⟨(b2.add ((b1).toNat * 2)).block,(b2.add ((b1).toNat * 2)).off + 1,none⟩ = some (.int .i64 ((rd_T23 l2 b1).f1)) ∧ o0.cell? (d6.add (b0).toNat) = some (.int .i64 (rd l0 b0)) ∧ o0.cell? (d6.add (b1).toNat) = some (.int .i64 (rd l0 b1)):=hS_
         refine norm_ (a':=?_) ?_ ?_
         rotate_left
         ·simp only [putAll,Act.put,List.setIfInBounds_toArray,List.set_cons_zero,List.set_cons_succ]
          rfl
         refine two_ (i:=21) (j:=22) (Ni:=some 13) (Nj:=some 14) (ba 25 4194303) (ba 25 6291455) rfl rfl rfl rfl (two_of HT_.out (by kernel_rfl)) (by decide) (by decide) (fun K hK=>?_) (fun K hK=>?_)
         ·skip
          refine box_step ?hg (N:=13) ?hd (cs:=#[.int .i64 0,.int .i64 0]) (t:=23) ?hr ?_;(case hd=>rfl);(case hg=>rfl);(case hr=>first | (go_simp;done) | (go_simp;rfl))
          intro b5 hg o5 hbox hb
          have e5:=A_ hbox
          have d2:=gw hg HB
          have h1:=d2
          have d7:=nl hg b3
          have e1:=ng hg b3
          have d9:=nl hg b4
          have e3:=ng hg b4
          replace b3:=kB b3 hb
          replace b4:=kB b4 hb
          replace HB:=bB HB hb
          clear hb hbox hg
          refine hK.out _ _ ⟨((HB.out.cell (World.block_lt_of_cell? w _ b8)).trans b8),((HB.out.cell (World.block_lt_of_cell? w _ b7)).trans b7),((HB.out.cell (World.block_lt_of_cell? w _ c1)).trans c1),((HB.out.cell (World.block_lt_of_cell? w _ b9)).trans b9),((HB.out.cell (World.block_lt_of_cell? w _ d0)).trans d0),((HB.out.cell (World.block_lt_of_cell? w _ d1)).trans d1)⟩ (fun hHeld=>?_)
          clear hK K
          refine nq 13 ?_
          exact norm_ (by first | (simp only [putAll,Act.put,List.setIfInBounds_toArray,List.set_cons_zero,List.set_cons_succ];done) | (simp only [putAll,Act.put,List.setIfInBounds_toArray,List.set_cons_zero,List.set_cons_succ];rfl)) (m4 (b5) _ ⟨hHeld,(kb b3),(kb b4),(kb e5),d2.out,h1.out,d7.out,e1.out,d9.out,e3.out,(bl HB)⟩)
         skip
         refine box_step ?hg (N:=14) ?hd (cs:=#[.int .i64 0,.int .i64 0]) (t:=23) ?hr ?_;(case hd=>rfl);(case hg=>rfl);(case hr=>first | (go_simp;done) | (go_simp;rfl))
         intro b6 hg o5 hbox hb
         have e6:=A_ hbox
         have d3:=gw hg HB
         have h2:=d3
         have d8:=nl hg b3
         have e2:=ng hg b3
         have e0:=nl hg b4
         have e4:=ng hg b4
         replace b3:=kB b3 hb
         replace b4:=kB b4 hb
         replace HB:=bB HB hb
         clear hb hbox hg
         refine hK.out _ _ ⟨((HB.out.cell (World.block_lt_of_cell? w _ b8)).trans b8),((HB.out.cell (World.block_lt_of_cell? w _ b7)).trans b7),((HB.out.cell (World.block_lt_of_cell? w _ c1)).trans c1),((HB.out.cell (World.block_lt_of_cell? w _ b9)).trans b9),((HB.out.cell (World.block_lt_of_cell? w _ d0)).trans d0),((HB.out.cell (World.block_lt_of_cell? w _ d1)).trans d1)⟩ (fun hHeld=>?_)
         clear hK K
         refine nq 14 ?_
         exact norm_ (by first | (simp only [putAll,Act.put,List.setIfInBounds_toArray,List.set_cons_zero,List.set_cons_succ];done) | (simp only [putAll,Act.put,List.setIfInBounds_toArray,List.set_cons_zero,List.set_cons_succ];rfl)) (m5 (b6) _ ⟨hHeld,(kb b3),(kb b4),(kb e6),d3.out,h2.out,d8.out,e2.out,e0.out,e4.out,(bl HB)⟩)
        skip
        rintro ⟨b5,b6⟩ o5 ⟨hS_,i9,j5,j7,j9,l5,l6,l7,l8,l9,m0,m7,m8,m9,n0,n1,n2,n3,n4,n5⟩
        have e5:Aside0 (o5.heap[b5]? = some (.cells #[.int .i64 0,.int .i64 0] 23 (0,0))):=⟨j7⟩
        have e6:Aside0 (o5.heap[b6]? = some (.cells #[.int .i64 0,.int .i64 0] 23 (0,0))):=⟨j9⟩
        have d2:Aside0 (w.heap.size ≤ b5):=⟨l5⟩
        have h1:Aside0 (w.heap.size ≤ b5):=⟨l6⟩
        have d7:Aside0 (d4 ≠ b5):=⟨l7⟩
        have e1:Aside0 (b5 ≠ d4):=⟨l8⟩
        have d9:Aside0 (d5 ≠ b5):=⟨l9⟩
        have e3:Aside0 (b5 ≠ d5):=⟨m0⟩
        have e9:Aside0 (b6 ≠ b5):=⟨m7⟩
        have h0:Aside0 (b5 ≠ b6):=⟨m8⟩
        have d3:Aside0 (w.heap.size ≤ b6):=⟨m9⟩
        have h2:Aside0 (w.heap.size ≤ b6):=⟨n0⟩
        have d8:Aside0 (d4 ≠ b6):=⟨n1⟩
        have e2:Aside0 (b6 ≠ d4):=⟨n2⟩
        have e0:Aside0 (d5 ≠ b6):=⟨n3⟩
        have e4:Aside0 (b6 ≠ d5):=⟨n4⟩
        replace b3:Aside0 (o5.heap[d4]? = some (.cells #[.int .i64 e8,.int .i64 e7] 51 (0,0))):=⟨i9⟩
        replace b4:Aside0 (o5.heap[d5]? = some (.cells #[.slice (some d6) l0.length c0,.int .i64 a1] 94 (0,0))):=⟨j5⟩
        replace HB:Aside0 (Below w.heap.size w o5):=⟨n5⟩
        clear i9 j5 j7 j9 l5 l6 l7 l8 l9 m0 m7 m8 m9 n0 n1 n2 n3 n4 n5
        have hHeld:o5.cell? (b2.add ((b0).toNat * 2)) = some (.int .i64 ((rd_T23 l2 b0).f0)) ∧ o5.cell? ⟨(b2.add ((b0).toNat * 2)).block,(b2.add ((b0).toNat * 2)).off + 1,none⟩ = some (.int .i64 ((rd_T23 l2 b0).f1)) ∧ o5.cell? (b2.add ((b1).toNat * 2)) = some (.int .i64 ((rd_T23 l2 b1).f0)) ∧ o5.cell? ⟨(b2.add ((b1).toNat * 2)).block,(b2.add ((b1).toNat * 2)).off + 1,none⟩ = some (.int .i64 ((rd_T23 l2 b1).f1)) ∧ o5.cell? (d6.add (b0).toNat) = some (.int .i64 (rd l0 b0)) ∧ o5.cell? (d6.add (b1).toNat) = some (.int .i64 (rd l0 b1)):=hS_
        refine norm_ (a':=?_) ?_ ?_
        rotate_left
        ·simp only [putAll,Act.put,List.setIfInBounds_toArray,List.set_cons_zero,List.set_cons_succ]
         rfl
        refine oq 17 60 6553599 HT_ (fun K hK=>?_)
        refine gq Try.func63 #[.agg #[.int .i64 h7,.int .i64 h8],.int .i64 (rd l0 b0),.int .i64 (rd l0 b1)] ?_
        with_reducible refine (shares_garment.calls k2 h7 h8 (rd l0 b0) (rd l0 b1) h3 h5 h4 h6 _ t2.out).mono ?_
        rintro e q7 ⟨rfl,hb⟩
        refine ⟨_,rfl,?_⟩
        replace b3:=kB b3 hb
        replace b4:=kB b4 hb
        replace e5:=kB e5 hb
        replace e6:=kB e6 hb
        replace HB:=bB HB hb
        (try clear hb)
        refine hK.out _ _ ⟨((HB.out.cell (World.block_lt_of_cell? w _ b8)).trans b8),((HB.out.cell (World.block_lt_of_cell? w _ b7)).trans b7),((HB.out.cell (World.block_lt_of_cell? w _ c1)).trans c1),((HB.out.cell (World.block_lt_of_cell? w _ b9)).trans b9),((HB.out.cell (World.block_lt_of_cell? w _ d0)).trans d0),((HB.out.cell (World.block_lt_of_cell? w _ d1)).trans d1)⟩ (fun hHeld=>?_)
        clear hK K
        refine nq 60 ?_
        refine pq 18 42 6815743 HT_ ?_
        refine pq 19 61 7340031 HT_ ?_
        refine pq 20 62 8388607 HT_ ?_
        exact norm_ (by first | (simp only [putAll,Act.put,List.setIfInBounds_toArray,List.set_cons_zero,List.set_cons_succ];done) | (simp only [putAll,Act.put,List.setIfInBounds_toArray,List.set_cons_zero,List.set_cons_succ];rfl)) (h9 (b5,b6) _ ⟨hHeld,(kb b3),(kb b4),(kb e5),(kb e6),d2.out,h1.out,d7.out,e1.out,d9.out,e3.out,e9.out,h0.out,d3.out,h2.out,d8.out,e2.out,e0.out,e4.out,(bl HB)⟩)
       skip
       rintro b6 o5 ⟨hS_,i9,j5,j7,j9,l5,l6,l7,l8,l9,m0⟩
       have e6:Aside0 (o5.heap[b6]? = some (.cells #[.int .i64 0,.int .i64 0] 23 (0,0))):=⟨j7⟩
       have d3:Aside0 (w.heap.size ≤ b6):=⟨j9⟩
       have h2:Aside0 (w.heap.size ≤ b6):=⟨l5⟩
       have d8:Aside0 (d4 ≠ b6):=⟨l6⟩
       have e2:Aside0 (b6 ≠ d4):=⟨l7⟩
       have e0:Aside0 (d5 ≠ b6):=⟨l8⟩
       have e4:Aside0 (b6 ≠ d5):=⟨l9⟩
       replace b3:Aside0 (o5.heap[d4]? = some (.cells #[.int .i64 e8,.int .i64 e7] 51 (0,0))):=⟨i9⟩
       replace b4:Aside0 (o5.heap[d5]? = some (.cells #[.slice (some d6) l0.length c0,.int .i64 a1] 94 (0,0))):=⟨j5⟩
       replace HB:Aside0 (Below w.heap.size w o5):=⟨m0⟩
       clear i9 j5 j7 j9 l5 l6 l7 l8 l9 m0
       have hHeld:o5.cell? (b2.add ((b0).toNat * 2)) = some (.int .i64 ((rd_T23 l2 b0).f0)) ∧ o5.cell? ⟨(b2.add ((b0).toNat * 2)).block,(b2.add ((b0).toNat * 2)).off + 1,none⟩ = some (.int .i64 ((rd_T23 l2 b0).f1)) ∧ o5.cell? (b2.add ((b1).toNat * 2)) = some (.int .i64 ((rd_T23 l2 b1).f0)) ∧ o5.cell? ⟨(b2.add ((b1).toNat * 2)).block,(b2.add ((b1).toNat * 2)).off + 1,none⟩ = some (.int .i64 ((rd_T23 l2 b1).f1)) ∧ o5.cell? (d6.add (b0).toNat) = some (.int .i64 (rd l0 b0)) ∧ o5.cell? (d6.add (b1).toNat) = some (.int .i64 (rd l0 b1)):=hS_
       refine norm_ (a':=?_) ?_ ?_
       rotate_left
       ·simp only [putAll,Act.put,List.setIfInBounds_toArray,List.set_cons_zero,List.set_cons_succ]
        rfl
       refine oq 21 13 8388607 HT_ (fun K hK=>?_)
       refine box_step ?hg (N:=13) ?hd (cs:=#[.int .i64 0,.int .i64 0]) (t:=23) ?hr ?_;(case hd=>rfl);(case hg=>rfl);(case hr=>first | (go_simp;done) | (go_simp;rfl))
       intro b5 hg q7 hbox hb
       have e5:=A_ hbox
       have d2:=gw hg HB
       have h1:=d2
       have d7:=nl hg b3
       have e1:=ng hg b3
       have d9:=nl hg b4
       have e3:=ng hg b4
       have e9:=nl hg e6
       have h0:=ng hg e6
       replace b3:=kB b3 hb
       replace b4:=kB b4 hb
       replace e6:=kB e6 hb
       replace HB:=bB HB hb
       clear hb hbox hg
       refine hK.out _ _ ⟨((HB.out.cell (World.block_lt_of_cell? w _ b8)).trans b8),((HB.out.cell (World.block_lt_of_cell? w _ b7)).trans b7),((HB.out.cell (World.block_lt_of_cell? w _ c1)).trans c1),((HB.out.cell (World.block_lt_of_cell? w _ b9)).trans b9),((HB.out.cell (World.block_lt_of_cell? w _ d0)).trans d0),((HB.out.cell (World.block_lt_of_cell? w _ d1)).trans d1)⟩ (fun hHeld=>?_)
       clear hK K
       refine nq 13 ?_
       exact norm_ (by first | (simp only [putAll,Act.put,List.setIfInBounds_toArray,List.set_cons_zero,List.set_cons_succ];done) | (simp only [putAll,Act.put,List.setIfInBounds_toArray,List.set_cons_zero,List.set_cons_succ];rfl)) (h9 (b5,b6) _ ⟨hHeld,(kb b3),(kb b4),(kb e5),(kb e6),d2.out,h1.out,d7.out,e1.out,d9.out,e3.out,e9.out,h0.out,d3.out,h2.out,d8.out,e2.out,e0.out,e4.out,(bl HB)⟩)
      skip
      rintro b5 o5 ⟨hS_,i9,j5,j7,j9,l5,l6,l7,l8,l9,m0⟩
      have e5:Aside0 (o5.heap[b5]? = some (.cells #[.int .i64 0,.int .i64 0] 23 (0,0))):=⟨j7⟩
      have d2:Aside0 (w.heap.size ≤ b5):=⟨j9⟩
      have h1:Aside0 (w.heap.size ≤ b5):=⟨l5⟩
      have d7:Aside0 (d4 ≠ b5):=⟨l6⟩
      have e1:Aside0 (b5 ≠ d4):=⟨l7⟩
      have d9:Aside0 (d5 ≠ b5):=⟨l8⟩
      have e3:Aside0 (b5 ≠ d5):=⟨l9⟩
      replace b3:Aside0 (o5.heap[d4]? = some (.cells #[.int .i64 e8,.int .i64 e7] 51 (0,0))):=⟨i9⟩
      replace b4:Aside0 (o5.heap[d5]? = some (.cells #[.slice (some d6) l0.length c0,.int .i64 a1] 94 (0,0))):=⟨j5⟩
      replace HB:Aside0 (Below w.heap.size w o5):=⟨m0⟩
      clear i9 j5 j7 j9 l5 l6 l7 l8 l9 m0
      have hHeld:o5.cell? (b2.add ((b0).toNat * 2)) = some (.int .i64 ((rd_T23 l2 b0).f0)) ∧ o5.cell? ⟨(b2.add ((b0).toNat * 2)).block,(b2.add ((b0).toNat * 2)).off + 1,none⟩ = some (.int .i64 ((rd_T23 l2 b0).f1)) ∧ o5.cell? (b2.add ((b1).toNat * 2)) = some (.int .i64 ((rd_T23 l2 b1).f0)) ∧ o5.cell? ⟨(b2.add ((b1).toNat * 2)).block,(b2.add ((b1).toNat * 2)).off + 1,none⟩ = some (.int .i64 ((rd_T23 l2 b1).f1)) ∧ o5.cell? (d6.add (b0).toNat) = some (.int .i64 (rd l0 b0)) ∧ o5.cell? (d6.add (b1).toNat) = some (.int .i64 (rd l0 b1)):=hS_
      refine norm_ (a':=?_) ?_ ?_
      rotate_left
      ·simp only [putAll,Act.put,List.setIfInBounds_toArray,List.set_cons_zero,List.set_cons_succ]
       rfl
      refine oq 22 14 8388607 HT_ (fun K hK=>?_)
      refine box_step ?hg (N:=14) ?hd (cs:=#[.int .i64 0,.int .i64 0]) (t:=23) ?hr ?_;(case hd=>rfl);(case hg=>rfl);(case hr=>first | (go_simp;done) | (go_simp;rfl))
      intro b6 hg q7 hbox hb
      have e6:=A_ hbox
      have d3:=gw hg HB
      have h2:=d3
      have d8:=nl hg b3
      have e2:=ng hg b3
      have e0:=nl hg b4
      have e4:=ng hg b4
      have h0:=nl hg e5
      have e9:=ng hg e5
      replace b3:=kB b3 hb
      replace b4:=kB b4 hb
      replace e5:=kB e5 hb
      replace HB:=bB HB hb
      clear hb hbox hg
      refine hK.out _ _ ⟨((HB.out.cell (World.block_lt_of_cell? w _ b8)).trans b8),((HB.out.cell (World.block_lt_of_cell? w _ b7)).trans b7),((HB.out.cell (World.block_lt_of_cell? w _ c1)).trans c1),((HB.out.cell (World.block_lt_of_cell? w _ b9)).trans b9),((HB.out.cell (World.block_lt_of_cell? w _ d0)).trans d0),((HB.out.cell (World.block_lt_of_cell? w _ d1)).trans d1)⟩ (fun hHeld=>?_)
      clear hK K
      refine nq 14 ?_
      exact norm_ (by first | (simp only [putAll,Act.put,List.setIfInBounds_toArray,List.set_cons_zero,List.set_cons_succ];done) | (simp only [putAll,Act.put,List.setIfInBounds_toArray,List.set_cons_zero,List.set_cons_succ];rfl)) (h9 (b5,b6) _ ⟨hHeld,(kb b3),(kb b4),(kb e5),(kb e6),d2.out,h1.out,d7.out,e1.out,d9.out,e3.out,e9.out,h0.out,d3.out,h2.out,d8.out,e2.out,e0.out,e4.out,(bl HB)⟩)
     rintro ⟨b5,b6⟩ q7 ⟨hS_,i9,j5,j7,j9,l5,l6,l7,l8,l9,m0,m7,m8,m9,n0,n1,n2,n3,n4,n5⟩
     have e5:Aside0 (q7.heap[b5]? = some (.cells #[.int .i64 0,.int .i64 0] 23 (0,0))):=⟨j7⟩
     have e6:Aside0 (q7.heap[b6]? = some (.cells #[.int .i64 0,.int .i64 0] 23 (0,0))):=⟨j9⟩
     have d2:Aside0 (w.heap.size ≤ b5):=⟨l5⟩
     have h1:Aside0 (w.heap.size ≤ b5):=⟨l6⟩
     have d7:Aside0 (d4 ≠ b5):=⟨l7⟩
     have e1:Aside0 (b5 ≠ d4):=⟨l8⟩
     have d9:Aside0 (d5 ≠ b5):=⟨l9⟩
     have e3:Aside0 (b5 ≠ d5):=⟨m0⟩
     have e9:Aside0 (b6 ≠ b5):=⟨m7⟩
     have h0:Aside0 (b5 ≠ b6):=⟨m8⟩
     have d3:Aside0 (w.heap.size ≤ b6):=⟨m9⟩
     have h2:Aside0 (w.heap.size ≤ b6):=⟨n0⟩
     have d8:Aside0 (d4 ≠ b6):=⟨n1⟩
     have e2:Aside0 (b6 ≠ d4):=⟨n2⟩
     have e0:Aside0 (d5 ≠ b6):=⟨n3⟩
     have e4:Aside0 (b6 ≠ d5):=⟨n4⟩
     replace b3:Aside0 (q7.heap[d4]? = some (.cells #[.int .i64 e8,.int .i64 e7] 51 (0,0))):=⟨i9⟩
     replace b4:Aside0 (q7.heap[d5]? = some (.cells #[.slice (some d6) l0.length c0,.int .i64 a1] 94 (0,0))):=⟨j5⟩
     replace HB:Aside0 (Below w.heap.size w q7):=⟨n5⟩
     clear i9 j5 j7 j9 l5 l6 l7 l8 l9 m0 m7 m8 m9 n0 n1 n2 n3 n4 n5
     have hHeld:q7.cell? (b2.add ((b0).toNat * 2)) = some (.int .i64 ((rd_T23 l2 b0).f0)) ∧ q7.cell? ⟨(b2.add ((b0).toNat * 2)).block,(b2.add ((b0).toNat * 2)).off + 1,none⟩ = some (.int .i64 ((rd_T23 l2 b0).f1)) ∧ q7.cell? (b2.add ((b1).toNat * 2)) = some (.int .i64 ((rd_T23 l2 b1).f0)) ∧ q7.cell? ⟨(b2.add ((b1).toNat * 2)).block,(b2.add ((b1).toNat * 2)).off + 1,none⟩ = some (.int .i64 ((rd_T23 l2 b1).f1)) ∧ q7.cell? (d6.add (b0).toNat) = some (.int .i64 (rd l0 b0)) ∧ q7.cell? (d6.add (b1).toNat) = some (.int .i64 (rd l0 b1)):=hS_
     refine norm_ (a':=?_) ?_ ?_
     rotate_left
     ·simp only [putAll,Act.put,List.setIfInBounds_toArray,List.set_cons_zero,List.set_cons_succ]
      rfl
     refine one_ (i:=23) (N:=none) (ba 25 16777215) rfl rfl (one_of HT_.out (by kernel_rfl)) (by decide) (fun K hK=>?_)
     have U3:q7.cell? ⟨b5,0,none⟩ = some (.int .i64 0):=cz e5 0
     have Q8:=blk_frozen e5.out 0
     have J3:=d7.out
     have J4:=d9.out
     have J5:=e9.out
     have J6:=e1.out
     have J7:=e3.out
     have J8:=h0.out
     have U4:q7.cell? ⟨b5,1,none⟩ = some (.int .i64 0):=cz e5 1
     have Q9:=blk_frozen e5.out 1
     have J9:=d7.out
     have K0:=d9.out
     have K1:=e9.out
     have K2:=e1.out
     have K3:=e3.out
     have K4:=h0.out
     refine skip_ (w1:=?_) (by rfl) rfl ?_ ?_
     rotate_left
     ·go_simp
      rfl
     refine hK.out _ _ ⟨((cell_far (p:=⟨b5,_,none⟩) (by first | exact Nat.ne_of_lt (Nat.lt_of_lt_of_le (by have:=World.block_lt_of_cell? _ _ b8;first | rwa [add_block] at this | exact this) d2.out) | (rw [add_block];exact Nat.ne_of_lt (Nat.lt_of_lt_of_le (by have:=World.block_lt_of_cell? _ _ b8;first | rwa [add_block] at this | exact this) d2.out)) | (show (Addr.add _ _).block ≠ _;rw [add_block];exact Nat.ne_of_lt (Nat.lt_of_lt_of_le (by have:=World.block_lt_of_cell? _ _ b8;first | rwa [add_block] at this | exact this) d2.out)) | (dsimp only;exact Nat.ne_of_lt (Nat.lt_of_lt_of_le (by have:=World.block_lt_of_cell? _ _ b8;first | rwa [add_block] at this | exact this) d2.out))) _).trans (((cell_far (p:=⟨b5,_,none⟩) (by first | exact Nat.ne_of_lt (Nat.lt_of_lt_of_le (by have:=World.block_lt_of_cell? _ _ b8;first | rwa [add_block] at this | exact this) d2.out) | (rw [add_block];exact Nat.ne_of_lt (Nat.lt_of_lt_of_le (by have:=World.block_lt_of_cell? _ _ b8;first | rwa [add_block] at this | exact this) d2.out)) | (show (Addr.add _ _).block ≠ _;rw [add_block];exact Nat.ne_of_lt (Nat.lt_of_lt_of_le (by have:=World.block_lt_of_cell? _ _ b8;first | rwa [add_block] at this | exact this) d2.out)) | (dsimp only;exact Nat.ne_of_lt (Nat.lt_of_lt_of_le (by have:=World.block_lt_of_cell? _ _ b8;first | rwa [add_block] at this | exact this) d2.out))) _).trans (hHeld.1)))),((cell_far (p:=⟨b5,_,none⟩) (by first | exact Nat.ne_of_lt (Nat.lt_of_lt_of_le (by have:=World.block_lt_of_cell? _ _ b7;first | rwa [add_block] at this | exact this) d2.out) | (rw [add_block];exact Nat.ne_of_lt (Nat.lt_of_lt_of_le (by have:=World.block_lt_of_cell? _ _ b7;first | rwa [add_block] at this | exact this) d2.out)) | (show (Addr.add _ _).block ≠ _;rw [add_block];exact Nat.ne_of_lt (Nat.lt_of_lt_of_le (by have:=World.block_lt_of_cell? _ _ b7;first | rwa [add_block] at this | exact this) d2.out)) | (dsimp only;exact Nat.ne_of_lt (Nat.lt_of_lt_of_le (by have:=World.block_lt_of_cell? _ _ b7;first | rwa [add_block] at this | exact this) d2.out))) _).trans (((cell_far (p:=⟨b5,_,none⟩) (by first | exact Nat.ne_of_lt (Nat.lt_of_lt_of_le (by have:=World.block_lt_of_cell? _ _ b7;first | rwa [add_block] at this | exact this) d2.out) | (rw [add_block];exact Nat.ne_of_lt (Nat.lt_of_lt_of_le (by have:=World.block_lt_of_cell? _ _ b7;first | rwa [add_block] at this | exact this) d2.out)) | (show (Addr.add _ _).block ≠ _;rw [add_block];exact Nat.ne_of_lt (Nat.lt_of_lt_of_le (by have:=World.block_lt_of_cell? _ _ b7;first | rwa [add_block] at this | exact this) d2.out)) | (dsimp only;exact Nat.ne_of_lt (Nat.lt_of_lt_of_le (by have:=World.block_lt_of_cell? _ _ b7;first | rwa [add_block] at this | exact this) d2.out))) _).trans (hHeld.2.1)))),((cell_far (p:=⟨b5,_,none⟩) (by first | exact Nat.ne_of_lt (Nat.lt_of_lt_of_le (by have:=World.block_lt_of_cell? _ _ c1;first | rwa [add_block] at this | exact this) d2.out) | (rw [add_block];exact Nat.ne_of_lt (Nat.lt_of_lt_of_le (by have:=World.block_lt_of_cell? _ _ c1;first | rwa [add_block] at this | exact this) d2.out)) | (show (Addr.add _ _).block ≠ _;rw [add_block];exact Nat.ne_of_lt (Nat.lt_of_lt_of_le (by have:=World.block_lt_of_cell? _ _ c1;first | rwa [add_block] at this | exact this) d2.out)) | (dsimp only;exact Nat.ne_of_lt (Nat.lt_of_lt_of_le (by have:=World.block_lt_of_cell? _ _ c1;first | rwa [add_block] at this | exact this) d2.out))) _).trans (((cell_far (p:=⟨b5,_,none⟩) (by first | exact Nat.ne_of_lt (Nat.lt_of_lt_of_le (by have:=World.block_lt_of_cell? _ _ c1;first | rwa [add_block] at this | exact this) d2.out) | (rw [add_block];exact Nat.ne_of_lt (Nat.lt_of_lt_of_le (by have:=World.block_lt_of_cell? _ _ c1;first | rwa [add_block] at this | exact this) d2.out)) | (show (Addr.add _ _).block ≠ _;rw [add_block];exact Nat.ne_of_lt (Nat.lt_of_lt_of_le (by have:=World.block_lt_of_cell? _ _ c1;first | rwa [add_block] at this | exact this) d2.out)) | (dsimp only;exact Nat.ne_of_lt (Nat.lt_of_lt_of_le (by have:=World.block_lt_of_cell? _ _ c1;first | rwa [add_block] at this | exact this) d2.out))) _).trans (hHeld.2.2.1)))),((cell_far (p:=⟨b5,_,none⟩) (by first | exact Nat.ne_of_lt (Nat.lt_of_lt_of_le (by have:=World.block_lt_of_cell? _ _ b9;first | rwa [add_block] at this | exact this) d2.out) | (rw [add_block];exact Nat.ne_of_lt (Nat.lt_of_lt_of_le (by have:=World.block_lt_of_cell? _ _ b9;first | rwa [add_block] at this | exact this) d2.out)) | (show (Addr.add _ _).block ≠ _;rw [add_block];exact Nat.ne_of_lt (Nat.lt_of_lt_of_le (by have:=World.block_lt_of_cell? _ _ b9;first | rwa [add_block] at this | exact this) d2.out)) | (dsimp only;exact Nat.ne_of_lt (Nat.lt_of_lt_of_le (by have:=World.block_lt_of_cell? _ _ b9;first | rwa [add_block] at this | exact this) d2.out))) _).trans (((cell_far (p:=⟨b5,_,none⟩) (by first | exact Nat.ne_of_lt (Nat.lt_of_lt_of_le (by have:=World.block_lt_of_cell? _ _ b9;first | rwa [add_block] at this | exact this) d2.out) | (rw [add_block];exact Nat.ne_of_lt (Nat.lt_of_lt_of_le (by have:=World.block_lt_of_cell? _ _ b9;first | rwa [add_block] at this | exact this) d2.out)) | (show (Addr.add _ _).block ≠ _;rw [add_block];exact Nat.ne_of_lt (Nat.lt_of_lt_of_le (by have:=World.block_lt_of_cell? _ _ b9;first | rwa [add_block] at this | exact this) d2.out)) | (dsimp only;exact Nat.ne_of_lt (Nat.lt_of_lt_of_le (by have:=World.block_lt_of_cell? _ _ b9;first | rwa [add_block] at this | exact this) d2.out))) _).trans (hHeld.2.2.2.1)))),((cell_far (p:=⟨b5,_,none⟩) (by first | exact Nat.ne_of_lt (Nat.lt_of_lt_of_le (by have:=World.block_lt_of_cell? _ _ d0;first | rwa [add_block] at this | exact this) d2.out) | (rw [add_block];exact Nat.ne_of_lt (Nat.lt_of_lt_of_le (by have:=World.block_lt_of_cell? _ _ d0;first | rwa [add_block] at this | exact this) d2.out)) | (show (Addr.add _ _).block ≠ _;rw [add_block];exact Nat.ne_of_lt (Nat.lt_of_lt_of_le (by have:=World.block_lt_of_cell? _ _ d0;first | rwa [add_block] at this | exact this) d2.out)) | (dsimp only;exact Nat.ne_of_lt (Nat.lt_of_lt_of_le (by have:=World.block_lt_of_cell? _ _ d0;first | rwa [add_block] at this | exact this) d2.out))) _).trans (((cell_far (p:=⟨b5,_,none⟩) (by first | exact Nat.ne_of_lt (Nat.lt_of_lt_of_le (by have:=World.block_lt_of_cell? _ _ d0;first | rwa [add_block] at this | exact this) d2.out) | (rw [add_block];exact Nat.ne_of_lt (Nat.lt_of_lt_of_le (by have:=World.block_lt_of_cell? _ _ d0;first | rwa [add_block] at this | exact this) d2.out)) | (show (Addr.add _ _).block ≠ _;rw [add_block];exact Nat.ne_of_lt (Nat.lt_of_lt_of_le (by have:=World.block_lt_of_cell? _ _ d0;first | rwa [add_block] at this | exact this) d2.out)) | (dsimp only;exact Nat.ne_of_lt (Nat.lt_of_lt_of_le (by have:=World.block_lt_of_cell? _ _ d0;first | rwa [add_block] at this | exact this) d2.out))) _).trans (hHeld.2.2.2.2.1)))),((cell_far (p:=⟨b5,_,none⟩) (by first | exact Nat.ne_of_lt (Nat.lt_of_lt_of_le (by have:=World.block_lt_of_cell? _ _ d1;first | rwa [add_block] at this | exact this) d2.out) | (rw [add_block];exact Nat.ne_of_lt (Nat.lt_of_lt_of_le (by have:=World.block_lt_of_cell? _ _ d1;first | rwa [add_block] at this | exact this) d2.out)) | (show (Addr.add _ _).block ≠ _;rw [add_block];exact Nat.ne_of_lt (Nat.lt_of_lt_of_le (by have:=World.block_lt_of_cell? _ _ d1;first | rwa [add_block] at this | exact this) d2.out)) | (dsimp only;exact Nat.ne_of_lt (Nat.lt_of_lt_of_le (by have:=World.block_lt_of_cell? _ _ d1;first | rwa [add_block] at this | exact this) d2.out))) _).trans (((cell_far (p:=⟨b5,_,none⟩) (by first | exact Nat.ne_of_lt (Nat.lt_of_lt_of_le (by have:=World.block_lt_of_cell? _ _ d1;first | rwa [add_block] at this | exact this) d2.out) | (rw [add_block];exact Nat.ne_of_lt (Nat.lt_of_lt_of_le (by have:=World.block_lt_of_cell? _ _ d1;first | rwa [add_block] at this | exact this) d2.out)) | (show (Addr.add _ _).block ≠ _;rw [add_block];exact Nat.ne_of_lt (Nat.lt_of_lt_of_le (by have:=World.block_lt_of_cell? _ _ d1;first | rwa [add_block] at this | exact this) d2.out)) | (dsimp only;exact Nat.ne_of_lt (Nat.lt_of_lt_of_le (by have:=World.block_lt_of_cell? _ _ d1;first | rwa [add_block] at this | exact this) d2.out))) _).trans (hHeld.2.2.2.2.2))))⟩ (fun hHeld=>?_)
     clear hK K
     refine one_ (i:=24) (N:=none) (ba 25 33554431) rfl rfl (one_of HT_.out (by kernel_rfl)) (by decide) (fun K hK=>?_)
     have U5:q7.cell? ⟨b6,0,none⟩ = some (.int .i64 0):=cz e6 0
     have R0:=blk_frozen e6.out 0
     have K5:=d8.out
     have K6:=e0.out
     have K7:=h0.out
     have K8:=e2.out
     have K9:=e4.out
     have L0:=e9.out
     have U6:q7.cell? ⟨b6,1,none⟩ = some (.int .i64 0):=cz e6 1
     have R1:=blk_frozen e6.out 1
     have L1:=d8.out
     have L2:=e0.out
     have L3:=h0.out
     have L4:=e2.out
     have L5:=e4.out
     have L6:=e9.out
     refine skip_ (w1:=?_) (by rfl) rfl ?_ ?_
     rotate_left
     ·go_simp
      rfl
     refine hK.out _ _ ⟨((cell_far (p:=⟨b6,_,none⟩) (by first | exact Nat.ne_of_lt (Nat.lt_of_lt_of_le (by have:=World.block_lt_of_cell? _ _ b8;first | rwa [add_block] at this | exact this) d3.out) | (rw [add_block];exact Nat.ne_of_lt (Nat.lt_of_lt_of_le (by have:=World.block_lt_of_cell? _ _ b8;first | rwa [add_block] at this | exact this) d3.out)) | (show (Addr.add _ _).block ≠ _;rw [add_block];exact Nat.ne_of_lt (Nat.lt_of_lt_of_le (by have:=World.block_lt_of_cell? _ _ b8;first | rwa [add_block] at this | exact this) d3.out)) | (dsimp only;exact Nat.ne_of_lt (Nat.lt_of_lt_of_le (by have:=World.block_lt_of_cell? _ _ b8;first | rwa [add_block] at this | exact this) d3.out))) _).trans (((cell_far (p:=⟨b6,_,none⟩) (by first | exact Nat.ne_of_lt (Nat.lt_of_lt_of_le (by have:=World.block_lt_of_cell? _ _ b8;first | rwa [add_block] at this | exact this) d3.out) | (rw [add_block];exact Nat.ne_of_lt (Nat.lt_of_lt_of_le (by have:=World.block_lt_of_cell? _ _ b8;first | rwa [add_block] at this | exact this) d3.out)) | (show (Addr.add _ _).block ≠ _;rw [add_block];exact Nat.ne_of_lt (Nat.lt_of_lt_of_le (by have:=World.block_lt_of_cell? _ _ b8;first | rwa [add_block] at this | exact this) d3.out)) | (dsimp only;exact Nat.ne_of_lt (Nat.lt_of_lt_of_le (by have:=World.block_lt_of_cell? _ _ b8;first | rwa [add_block] at this | exact this) d3.out))) _).trans (hHeld.1)))),((cell_far (p:=⟨b6,_,none⟩) (by first | exact Nat.ne_of_lt (Nat.lt_of_lt_of_le (by have:=World.block_lt_of_cell? _ _ b7;first | rwa [add_block] at this | exact this) d3.out) | (rw [add_block];exact Nat.ne_of_lt (Nat.lt_of_lt_of_le (by have:=World.block_lt_of_cell? _ _ b7;first | rwa [add_block] at this | exact this) d3.out)) | (show (Addr.add _ _).block ≠ _;rw [add_block];exact Nat.ne_of_lt (Nat.lt_of_lt_of_le (by have:=World.block_lt_of_cell? _ _ b7;first | rwa [add_block] at this | exact this) d3.out)) | (dsimp only;exact Nat.ne_of_lt (Nat.lt_of_lt_of_le (by have:=World.block_lt_of_cell? _ _ b7;first | rwa [add_block] at this | exact this) d3.out))) _).trans (((cell_far (p:=⟨b6,_,none⟩) (by first | exact Nat.ne_of_lt (Nat.lt_of_lt_of_le (by have:=World.block_lt_of_cell? _ _ b7;first | rwa [add_block] at this | exact this) d3.out) | (rw [add_block];exact Nat.ne_of_lt (Nat.lt_of_lt_of_le (by have:=World.block_lt_of_cell? _ _ b7;first | rwa [add_block] at this | exact this) d3.out)) | (show (Addr.add _ _).block ≠ _;rw [add_block];exact Nat.ne_of_lt (Nat.lt_of_lt_of_le (by have:=World.block_lt_of_cell? _ _ b7;first | rwa [add_block] at this | exact this) d3.out)) | (dsimp only;exact Nat.ne_of_lt (Nat.lt_of_lt_of_le (by have:=World.block_lt_of_cell? _ _ b7;first | rwa [add_block] at this | exact this) d3.out))) _).trans (hHeld.2.1)))),((cell_far (p:=⟨b6,_,none⟩) (by first | exact Nat.ne_of_lt (Nat.lt_of_lt_of_le (by have:=World.block_lt_of_cell? _ _ c1;first | rwa [add_block] at this | exact this) d3.out) | (rw [add_block];exact Nat.ne_of_lt (Nat.lt_of_lt_of_le (by have:=World.block_lt_of_cell? _ _ c1;first | rwa [add_block] at this | exact this) d3.out)) | (show (Addr.add _ _).block ≠ _;rw [add_block];exact Nat.ne_of_lt (Nat.lt_of_lt_of_le (by have:=World.block_lt_of_cell? _ _ c1;first | rwa [add_block] at this | exact this) d3.out)) | (dsimp only;exact Nat.ne_of_lt (Nat.lt_of_lt_of_le (by have:=World.block_lt_of_cell? _ _ c1;first | rwa [add_block] at this | exact this) d3.out))) _).trans (((cell_far (p:=⟨b6,_,none⟩) (by first | exact Nat.ne_of_lt (Nat.lt_of_lt_of_le (by have:=World.block_lt_of_cell? _ _ c1;first | rwa [add_block] at this | exact this) d3.out) | (rw [add_block];exact Nat.ne_of_lt (Nat.lt_of_lt_of_le (by have:=World.block_lt_of_cell? _ _ c1;first | rwa [add_block] at this | exact this) d3.out)) | (show (Addr.add _ _).block ≠ _;rw [add_block];exact Nat.ne_of_lt (Nat.lt_of_lt_of_le (by have:=World.block_lt_of_cell? _ _ c1;first | rwa [add_block] at this | exact this) d3.out)) | (dsimp only;exact Nat.ne_of_lt (Nat.lt_of_lt_of_le (by have:=World.block_lt_of_cell? _ _ c1;first | rwa [add_block] at this | exact this) d3.out))) _).trans (hHeld.2.2.1)))),((cell_far (p:=⟨b6,_,none⟩) (by first | exact Nat.ne_of_lt (Nat.lt_of_lt_of_le (by have:=World.block_lt_of_cell? _ _ b9;first | rwa [add_block] at this | exact this) d3.out) | (rw [add_block];exact Nat.ne_of_lt (Nat.lt_of_lt_of_le (by have:=World.block_lt_of_cell? _ _ b9;first | rwa [add_block] at this | exact this) d3.out)) | (show (Addr.add _ _).block ≠ _;rw [add_block];exact Nat.ne_of_lt (Nat.lt_of_lt_of_le (by have:=World.block_lt_of_cell? _ _ b9;first | rwa [add_block] at this | exact this) d3.out)) | (dsimp only;exact Nat.ne_of_lt (Nat.lt_of_lt_of_le (by have:=World.block_lt_of_cell? _ _ b9;first | rwa [add_block] at this | exact this) d3.out))) _).trans (((cell_far (p:=⟨b6,_,none⟩) (by first | exact Nat.ne_of_lt (Nat.lt_of_lt_of_le (by have:=World.block_lt_of_cell? _ _ b9;first | rwa [add_block] at this | exact this) d3.out) | (rw [add_block];exact Nat.ne_of_lt (Nat.lt_of_lt_of_le (by have:=World.block_lt_of_cell? _ _ b9;first | rwa [add_block] at this | exact this) d3.out)) | (show (Addr.add _ _).block ≠ _;rw [add_block];exact Nat.ne_of_lt (Nat.lt_of_lt_of_le (by have:=World.block_lt_of_cell? _ _ b9;first | rwa [add_block] at this | exact this) d3.out)) | (dsimp only;exact Nat.ne_of_lt (Nat.lt_of_lt_of_le (by have:=World.block_lt_of_cell? _ _ b9;first | rwa [add_block] at this | exact this) d3.out))) _).trans (hHeld.2.2.2.1)))),((cell_far (p:=⟨b6,_,none⟩) (by first | exact Nat.ne_of_lt (Nat.lt_of_lt_of_le (by have:=World.block_lt_of_cell? _ _ d0;first | rwa [add_block] at this | exact this) d3.out) | (rw [add_block];exact Nat.ne_of_lt (Nat.lt_of_lt_of_le (by have:=World.block_lt_of_cell? _ _ d0;first | rwa [add_block] at this | exact this) d3.out)) | (show (Addr.add _ _).block ≠ _;rw [add_block];exact Nat.ne_of_lt (Nat.lt_of_lt_of_le (by have:=World.block_lt_of_cell? _ _ d0;first | rwa [add_block] at this | exact this) d3.out)) | (dsimp only;exact Nat.ne_of_lt (Nat.lt_of_lt_of_le (by have:=World.block_lt_of_cell? _ _ d0;first | rwa [add_block] at this | exact this) d3.out))) _).trans (((cell_far (p:=⟨b6,_,none⟩) (by first | exact Nat.ne_of_lt (Nat.lt_of_lt_of_le (by have:=World.block_lt_of_cell? _ _ d0;first | rwa [add_block] at this | exact this) d3.out) | (rw [add_block];exact Nat.ne_of_lt (Nat.lt_of_lt_of_le (by have:=World.block_lt_of_cell? _ _ d0;first | rwa [add_block] at this | exact this) d3.out)) | (show (Addr.add _ _).block ≠ _;rw [add_block];exact Nat.ne_of_lt (Nat.lt_of_lt_of_le (by have:=World.block_lt_of_cell? _ _ d0;first | rwa [add_block] at this | exact this) d3.out)) | (dsimp only;exact Nat.ne_of_lt (Nat.lt_of_lt_of_le (by have:=World.block_lt_of_cell? _ _ d0;first | rwa [add_block] at this | exact this) d3.out))) _).trans (hHeld.2.2.2.2.1)))),((cell_far (p:=⟨b6,_,none⟩) (by first | exact Nat.ne_of_lt (Nat.lt_of_lt_of_le (by have:=World.block_lt_of_cell? _ _ d1;first | rwa [add_block] at this | exact this) d3.out) | (rw [add_block];exact Nat.ne_of_lt (Nat.lt_of_lt_of_le (by have:=World.block_lt_of_cell? _ _ d1;first | rwa [add_block] at this | exact this) d3.out)) | (show (Addr.add _ _).block ≠ _;rw [add_block];exact Nat.ne_of_lt (Nat.lt_of_lt_of_le (by have:=World.block_lt_of_cell? _ _ d1;first | rwa [add_block] at this | exact this) d3.out)) | (dsimp only;exact Nat.ne_of_lt (Nat.lt_of_lt_of_le (by have:=World.block_lt_of_cell? _ _ d1;first | rwa [add_block] at this | exact this) d3.out))) _).trans (((cell_far (p:=⟨b6,_,none⟩) (by first | exact Nat.ne_of_lt (Nat.lt_of_lt_of_le (by have:=World.block_lt_of_cell? _ _ d1;first | rwa [add_block] at this | exact this) d3.out) | (rw [add_block];exact Nat.ne_of_lt (Nat.lt_of_lt_of_le (by have:=World.block_lt_of_cell? _ _ d1;first | rwa [add_block] at this | exact this) d3.out)) | (show (Addr.add _ _).block ≠ _;rw [add_block];exact Nat.ne_of_lt (Nat.lt_of_lt_of_le (by have:=World.block_lt_of_cell? _ _ d1;first | rwa [add_block] at this | exact this) d3.out)) | (dsimp only;exact Nat.ne_of_lt (Nat.lt_of_lt_of_le (by have:=World.block_lt_of_cell? _ _ d1;first | rwa [add_block] at this | exact this) d3.out))) _).trans (hHeld.2.2.2.2.2))))⟩ (fun hHeld=>?_)
     clear hK K
     refine done_ (done_of HT_.out (by kernel_rfl)) ?_
     try go_wp2
     have x3:Aside0 (((((q7.setCell ⟨b5,0,none⟩ (.int .i64 h3)).setCell ⟨b5,1,none⟩ (.int .i64 h5)).setCell ⟨b6,0,none⟩ (.int .i64 h4)).setCell ⟨b6,1,none⟩ (.int .i64 h6)).heap[d4]? = some (.cells #[.int .i64 e8,.int .i64 e7] 51 (0,0))):=⟨by (with_reducible repeat (first | refine blk_drewN ?_ _ | refine blk_drew ?_ | refine blk_alloc ?_ _));refine blk_far ?_ d8.out _;(with_reducible repeat (first | refine blk_drewN ?_ _ | refine blk_drew ?_ | refine blk_alloc ?_ _));refine blk_far ?_ d8.out _;(with_reducible repeat (first | refine blk_drewN ?_ _ | refine blk_drew ?_ | refine blk_alloc ?_ _));refine blk_far ?_ d7.out _;(with_reducible repeat (first | refine blk_drewN ?_ _ | refine blk_drew ?_ | refine blk_alloc ?_ _));refine blk_far ?_ d7.out _;(with_reducible repeat (first | refine blk_drewN ?_ _ | refine blk_drew ?_ | refine blk_alloc ?_ _));exact b3.out⟩
     have x4:Aside0 (((((q7.setCell ⟨b5,0,none⟩ (.int .i64 h3)).setCell ⟨b5,1,none⟩ (.int .i64 h5)).setCell ⟨b6,0,none⟩ (.int .i64 h4)).setCell ⟨b6,1,none⟩ (.int .i64 h6)).heap[d5]? = some (.cells #[.slice (some d6) l0.length c0,.int .i64 a1] 94 (0,0))):=⟨by (with_reducible repeat (first | refine blk_drewN ?_ _ | refine blk_drew ?_ | refine blk_alloc ?_ _));refine blk_far ?_ e0.out _;(with_reducible repeat (first | refine blk_drewN ?_ _ | refine blk_drew ?_ | refine blk_alloc ?_ _));refine blk_far ?_ e0.out _;(with_reducible repeat (first | refine blk_drewN ?_ _ | refine blk_drew ?_ | refine blk_alloc ?_ _));refine blk_far ?_ d9.out _;(with_reducible repeat (first | refine blk_drewN ?_ _ | refine blk_drew ?_ | refine blk_alloc ?_ _));refine blk_far ?_ d9.out _;(with_reducible repeat (first | refine blk_drewN ?_ _ | refine blk_drew ?_ | refine blk_alloc ?_ _));exact b4.out⟩
     have x5:Aside0 (((((q7.setCell ⟨b5,0,none⟩ (.int .i64 h3)).setCell ⟨b5,1,none⟩ (.int .i64 h5)).setCell ⟨b6,0,none⟩ (.int .i64 h4)).setCell ⟨b6,1,none⟩ (.int .i64 h6)).heap[b5]? = some (.cells #[.int .i64 h3,.int .i64 h5] 23 (0,0))):=⟨by (with_reducible repeat (first | refine blk_drewN ?_ _ | refine blk_drew ?_ | refine blk_alloc ?_ _));refine blk_far ?_ h0.out _;(with_reducible repeat (first | refine blk_drewN ?_ _ | refine blk_drew ?_ | refine blk_alloc ?_ _));refine blk_far ?_ h0.out _;(with_reducible repeat (first | refine blk_drewN ?_ _ | refine blk_drew ?_ | refine blk_alloc ?_ _));refine blk_put (cs:=#[.int .i64 h3,.int .i64 0]) ?_ 1 _ rfl;(with_reducible repeat (first | refine blk_drewN ?_ _ | refine blk_drew ?_ | refine blk_alloc ?_ _));refine blk_put (cs:=#[.int .i64 0,.int .i64 0]) ?_ 0 _ rfl;(with_reducible repeat (first | refine blk_drewN ?_ _ | refine blk_drew ?_ | refine blk_alloc ?_ _));exact e5.out⟩
     have x6:Aside0 (((((q7.setCell ⟨b5,0,none⟩ (.int .i64 h3)).setCell ⟨b5,1,none⟩ (.int .i64 h5)).setCell ⟨b6,0,none⟩ (.int .i64 h4)).setCell ⟨b6,1,none⟩ (.int .i64 h6)).heap[b6]? = some (.cells #[.int .i64 h4,.int .i64 h6] 23 (0,0))):=⟨by (with_reducible repeat (first | refine blk_drewN ?_ _ | refine blk_drew ?_ | refine blk_alloc ?_ _));refine blk_put (cs:=#[.int .i64 h4,.int .i64 0]) ?_ 1 _ rfl;(with_reducible repeat (first | refine blk_drewN ?_ _ | refine blk_drew ?_ | refine blk_alloc ?_ _));refine blk_put (cs:=#[.int .i64 0,.int .i64 0]) ?_ 0 _ rfl;(with_reducible repeat (first | refine blk_drewN ?_ _ | refine blk_drew ?_ | refine blk_alloc ?_ _));refine blk_far ?_ e9.out _;(with_reducible repeat (first | refine blk_drewN ?_ _ | refine blk_drew ?_ | refine blk_alloc ?_ _));refine blk_far ?_ e9.out _;(with_reducible repeat (first | refine blk_drewN ?_ _ | refine blk_drew ?_ | refine blk_alloc ?_ _));exact e6.out⟩
     have x7:Aside0 (Below w.heap.size w ((((q7.setCell ⟨b5,0,none⟩ (.int .i64 h3)).setCell ⟨b5,1,none⟩ (.int .i64 h5)).setCell ⟨b6,0,none⟩ (.int .i64 h4)).setCell ⟨b6,1,none⟩ (.int .i64 h6))):=⟨bl HB⟩
     generalize ((((q7.setCell ⟨b5,0,none⟩ (.int .i64 h3)).setCell ⟨b5,1,none⟩ (.int .i64 h5)).setCell ⟨b6,0,none⟩ (.int .i64 h4)).setCell ⟨b6,1,none⟩ (.int .i64 h6)) = U7 at x3 x4 x5 x6 x7 ⊢
     have b3:=x3
     have b4:=x4
     have e5:=x5
     have e6:=x6
     have HB:=x7
     clear x3 x4 x5 x6 x7
     replace b3:=kD b3
     replace b4:=kD b4
     replace e5:=kD e5
     replace e6:=kD e6
     replace HB:=bD HB
     have p7:0 ≤ (b0:Int):=of_decide_eq_true (by first | (with_reducible assumption) | assumption)
     have p8:b0 < (l2.length:Int):=of_decide_eq_true (by first | (with_reducible assumption) | assumption)
     obtain ⟨r6,s7,i6,i7⟩:=at_T23 t0.out b0 p7 p8
     have n6:=i7
     have n7:=i6
     obtain rfl:b2 = r6:=(by injection s7)
     replace i6:=(HB.out.cell (World.block_lt_of_cell? w _ i6)).trans i6
     replace i7:=(HB.out.cell (World.block_lt_of_cell? w _ i7)).trans i7
     replace p7:=eq_true p7
     replace p8:=eq_true p8
     have r7:0 ≤ (b1:Int):=of_decide_eq_true (by first | (with_reducible assumption) | assumption)
     have r8:b1 < (l2.length:Int):=of_decide_eq_true (by first | (with_reducible assumption) | assumption)
     obtain ⟨s9,x8,m1,m2⟩:=at_T23 t0.out b1 r7 r8
     have p9:=m2
     have q0:=m1
     obtain rfl:b2 = s9:=(by injection x8)
     replace m1:=(HB.out.cell (World.block_lt_of_cell? w _ m1)).trans m1
     replace m2:=(HB.out.cell (World.block_lt_of_cell? w _ m2)).trans m2
     replace r7:=eq_true r7
     replace r8:=eq_true r8
     refine start_ (n:=14) (S:=fun w'=>w'.cell? ⟨b5,0,none⟩ = some (.int .i64 h3) ∧ w'.cell? ⟨b5,1,none⟩ = some (.int .i64 h5) ∧ w'.cell? ⟨b6,0,none⟩ = some (.int .i64 h4) ∧ w'.cell? ⟨b6,1,none⟩ = some (.int .i64 h6) ∧ w'.cell? (b2.add ((b0).toNat * 2)) = some (.int .i64 ((rd_T23 l2 b0).f0)) ∧ w'.cell? ⟨(b2.add ((b0).toNat * 2)).block,(b2.add ((b0).toNat * 2)).off + 1,none⟩ = some (.int .i64 ((rd_T23 l2 b0).f1)) ∧ w'.cell? (b2.add ((b1).toNat * 2)) = some (.int .i64 ((rd_T23 l2 b1).f0)) ∧ w'.cell? ⟨(b2.add ((b1).toNat * 2)).block,(b2.add ((b1).toNat * 2)).off + 1,none⟩ = some (.int .i64 ((rd_T23 l2 b1).f1))) (ds:=[]) (ba 14 0) (by kernel_rfl) rfl rfl ⟨cz e5 0,cz e5 1,cz e6 0,cz e6 1,((HB.out.cell (World.block_lt_of_cell? w _ n7)).trans n7),((HB.out.cell (World.block_lt_of_cell? w _ n6)).trans n6),((HB.out.cell (World.block_lt_of_cell? w _ q0)).trans q0),((HB.out.cell (World.block_lt_of_cell? w _ p9)).trans p9)⟩ (fun hHeld=>?_);refine with_tabW shares_Agrees.tab13 shares_Agrees.bits13 (fun HT_ HW_=>?_)
     generalize U7.drew = R2 at b3 b4 e5 e6 HB i6 i7 m1 m2 hHeld ⊢
     refine pq 1 64 2 HT_ ?_
     refine pq 2 65 6 HT_ ?_
     refine pq 3 66 14 HT_ ?_
     refine tq 0 63 15 HT_ HW_ hHeld ?_
     refine tq 4 67 31 HT_ HW_ hHeld ?_
     refine pq 5 68 63 HT_ ?_
     refine pq 6 69 127 HT_ ?_
     refine pq 8 71 383 HT_ ?_
     refine pq 9 72 895 HT_ ?_
     refine pq 10 73 1919 HT_ ?_
     refine tq 7 70 2047 HT_ HW_ hHeld ?_
     refine tq 11 74 4095 HT_ HW_ hHeld ?_
     refine pq 12 75 8191 HT_ ?_
     refine pq 13 76 16383 HT_ ?_
     refine done_ (done_of HT_.out (by kernel_rfl)) ?_
     have R3:=i8.out
     have R4:=m3.out
     have R5:=d7.out
     have R6:=e1.out
     have R7:=d8.out
     have R8:=e2.out
     have L7:R2.cell? ⟨d4,0,none⟩ = some (.int .i64 e8):=cz b3 0
     have L8:R2.cell? ⟨d4,1,none⟩ = some (.int .i64 e7):=cz b3 1
     have L9:=blk_frozen b3.out 0
     have M0:=blk_frozen b3.out 1
     try go_wp2
     refine bodyPost_ret (results_ctt rfl _ _ d4 51 #[.int .i64 b0,.int .i64 b1] (0,0) _ rfl (by (with_reducible repeat (first | refine blk_drewN ?_ _ | refine blk_drew ?_ | refine blk_alloc ?_ _));refine blk_put (cs:=#[.int .i64 b0,.int .i64 e7]) ?_ 1 _ rfl;(with_reducible repeat (first | refine blk_drewN ?_ _ | refine blk_drew ?_ | refine blk_alloc ?_ _));refine blk_put (cs:=#[.int .i64 e8,.int .i64 e7]) ?_ 0 _ rfl;(with_reducible repeat (first | refine blk_drewN ?_ _ | refine blk_drew ?_ | refine blk_alloc ?_ _));exact b3.out) Try.underlying51 rfl (by kernel_rfl)) rfl ?_
     exact ⟨by first | rfl | (simp [errW_none,errW_some] <;> rfl) | (simp [*,errW_none,errW_some] <;> rfl),bl HB⟩
end Go.Proofs.Ytjohcjfmlhihbaa.G
