/- Several texts, joined. -/
import Derived.SizedLaws
import Derived.ChangeSlices
import Derived.Test.YtjohcjfmlhihbaaQUp2
set_option linter.unusedVariables false
set_option linter.unusedSimpArgs false
namespace Go.Proofs.Ytjohcjfmlhihbaa.G
open Go.RowKit Go.Proofs.YtjohcjfmlhihbaaW.PrintWords Go.Proofs.YtjohcjfmlhihbaaW.PrintLast Go.Proofs.YtjohcjfmlhihbaaW.PrintMore
set_option maxHeartbeats 8000000
set_option maxRecDepth 100000
attribute [local go_sem] cond_true cond_false fld23_0 fld23_1 fld45_0 fld45_1 fld109_0 fld109_1 fld94_0 fld94_1 max2_int min2_int max_two min_two max_three min_three max_four min_four
def numnahref07_Possible.l0:Nat → List Int → List (S45) → List (S23) → Int → Option (Bool)
 | 0,_,_,_,_=>none
 | k + 1,x0,x1,x2,x7=>if x7 < (x0.length:Int) then ((numnahref07_Load.f k x1 x2 x7).bind fun e3=>(if 0 ≤ x7 then (if e3.1 > (wrap64 ((rd x0 x7) * e3.2)) then (some false) else (numnahref07_Possible.l0 k x0 x1 x2 (wrap64 (x7 + 1)))) else (none))) else (some true)
def numnahref07_Possible.f (k:Nat) (l0:List Int) (l1:List (S45)) (l2:List (S23)):Option (Bool):=numnahref07_Possible.l0 k l0 l1 l2 0
theorem numnahref07_Possible.mono_l:∀ k,(∀ y0 y1 y2 y3,LeO (numnahref07_Possible.l0 k y0 y1 y2 y3) (numnahref07_Possible.l0 (k + 1) y0 y1 y2 y3))
 | 0=>fun _ _ _ _ r h=>by simp [numnahref07_Possible.l0] at h
 | k + 1=>by
  have h0:=numnahref07_Possible.mono_l k
  intro y0 y1 y2 y3
  unfold numnahref07_Possible.l0
  repeat' first
  | (with_reducible first | exact h0 _ _ _ _ | exact numnahref07_Load.mono _ _ _ _ | exact LeO.refl _ | exact LeO.none _ | refine LeO.ite ?_ ?_ | refine LeO.bind ?_ (fun _=>?_))
  | exact LeO.none _ | refine LeO.ite ?_ ?_ | refine LeO.bind ?_ (fun _=>?_)
theorem numnahref07_Possible.mono:∀ a0 a1 a2 k,LeO (numnahref07_Possible.f k a0 a1 a2) (numnahref07_Possible.f (k + 1) a0 a1 a2):=by
 intro a0 a1 a2 k
 have h0:=numnahref07_Possible.mono_l k
 unfold numnahref07_Possible.f
 repeat' first
   | (with_reducible first | exact h0 _ _ _ _ | exact numnahref07_Load.mono _ _ _ _ | exact LeO.refl _ | exact LeO.none _ | refine LeO.ite ?_ ?_ | refine LeO.bind ?_ (fun _=>?_))
   | exact LeO.none _ | refine LeO.ite ?_ ?_ | refine LeO.bind ?_ (fun _=>?_)
theorem numnahref07_Possible.calls (k:Nat) (A0:Option Addr) (c0:Nat) (l0:List Int) (A1:Option Addr) (c1:Nat) (l1:List (S45)) (A2:Option Addr) (c2:Nat) (l2:List (S23)) (r:Bool) (w:World) (h3:Kd.C (Kd.int .i64) w A0 l0.length l0) (h4:l0.length ≤ c0) (h5:Kd.C k45 w A1 l1.length l1) (h6:l1.length ≤ c1) (h7:Kd.C k23 w A2 l2.length l2) (h8:l2.length ≤ c2) (h:numnahref07_Possible.f k l0 l1 l2 = some r) :
  Calls Try.prog 61 #[.slice A0 l0.length c0,.slice A1 l1.length c1,.slice A2 l2.length c2] w fun e w'=>e = .returned (.bool r) ∧ Below w.heap.size w w':=by
 have i1:=Try.underlying23
 have e5:=A_ h3
 have i3:=A_ h4
 clear h3 h4
 have e6:=A_ h5
 have e7:=A_ h6
 clear h5 h6
 have e8:=A_ h7
 have e9:=A_ h8
 clear h7 h8
 have HB:=A_ (Below.refl w.heap.size w)
 have H:(numnahref07_Possible.l0 k l0 l1 l2 0) = some r:=h
 clear h
 have H':=A_ H
 clear H
 go_enter Try.func61,Try.ntmps61
 go_wp2
 repeat (go_quiet (fail);try go_wp2)
 go_loopg [7] k (fun kq v7 w'=>∃ (b9:Int),v7 = .int .i64 b9 ∧ Aside0 (numnahref07_Possible.l0 kq l0 l1 l2 b9 = some r) ∧ Aside0 (kq ≤ k) ∧ Aside0 (Below w.heap.size w w'))
 case atStart=>exact ⟨(0),(by first | rfl | (simp;done) | (simp [*];done)),H',⟨Nat.le_refl _⟩,⟨bl HB⟩⟩
 case round =>
  clear H'
  obtain ⟨b9,rfl,HA,h9,HB⟩:=hrel
  cases gk with
  | zero=>exact absurd HA.out (by simp [numnahref07_Possible.l0])
  | succ k1 =>
   have H:=HA.out
   clear HA
   simp only [numnahref07_Possible.l0] at H
   by_cases c4:b9 < (l0.length:Int)
   case neg =>
    rw [if_neg c4] at H
    have h1:=decide_eq_false c4
    clear c4
    obtain rfl:=Option.some.inj H
    go_wp2
    repeat (go_quiet (fail);try go_wp2)
    go_ret
    exact ⟨by first | rfl | (simp [errW_none,errW_some] <;> rfl) | (simp [*,errW_none,errW_some] <;> rfl),bl HB⟩
   rw [if_pos c4] at H
   have h1:=decide_eq_true c4
   clear c4
   replace H:=Option.bind_eq_some_iff.mp H
   obtain ⟨⟨d0,d1⟩,A50,H⟩:=H
   dsimp only at H
   have A5:=A_ A50
   clear A50
   replace H:=gd H
   obtain ⟨c6,H⟩:=H
   have i2:=decide_eq_true c6
   clear c6
   by_cases c7:d0 > (wrap64 ((rd l0 b9) * d1))
   ·rw [if_pos c7] at H
    have h2:=decide_eq_true c7
    clear c7
    obtain rfl:=Option.some.inj H
    go_wp2_with (first | (go_at_call 60;(with_reducible refine (numnahref07_Load.calls k1 _ _ l1 _ _ l2 b9 d0 d1 _ ?side1 ?side2 ?side3 ?side4 A5.out).mono ?_);(case side1=>exact cB e6 HB);(case side2=>exact e7.out);(case side3=>exact cB e8 HB);(case side4=>exact e9.out);rintro e w8 ⟨rfl,hb⟩;replace HB:=bB HB hb;(try clear hb)) | ((with_reducible refine gate_dst (N:=8) rfl ?_);refine bx 8 #[.int .i64 0,.int .i64 0] 23 ?_;intro b1 hg w9 hbox hb;have b4:=A_ hbox;have b5:=gw hg HB;have d4:=b5;replace HB:=bB HB hb;clear hb hbox hg;have d5:w9.cell? ⟨b1,0,none⟩ = some (.int .i64 0):=cz b4 0;have d6:w9.cell? ⟨b1,1,none⟩ = some (.int .i64 0):=cz b4 1;have d7:=blk_frozen b4.out 0;have d8:=blk_frozen b4.out 1;have b6:0 ≤ (b9:Int):=of_decide_eq_true (by first | (with_reducible assumption) | assumption);have b7:b9 < (l0.length:Int):=of_decide_eq_true (by first | (with_reducible assumption) | assumption);obtain ⟨b8,d2,b0⟩:=Kd.at_int e5.out b9 b6 b7;cases d2;have b2:b8.block ≠ b1:=Nat.ne_of_lt (Nat.lt_of_lt_of_le (by have:=World.block_lt_of_cell? _ _ b0;first | rwa [add_block] at this | exact this) b5.out);have b3:b8.block ≠ b1:=Nat.ne_of_lt (Nat.lt_of_lt_of_le (by have:=World.block_lt_of_cell? _ _ b0;first | rwa [add_block] at this | exact this) b5.out);replace b0:=(HB.out.cell (World.block_lt_of_cell? w _ b0)).trans b0;replace b0:=(cell_far (p:=⟨b1,0,none⟩) (by first | (rw [add_block];exact b2) | (show (Addr.add _ _).block ≠ _;rw [add_block];exact b2) | exact b2) (.int .i64 d0)).trans b0;replace b0:=(cell_far (p:=⟨b1,1,none⟩) (by first | (rw [add_block];exact b3) | (show (Addr.add _ _).block ≠ _;rw [add_block];exact b3) | exact b3) (.int .i64 d1)).trans b0;(try have d3:=fun (n_:Nat)=>(show ((((w9.drewN n_).setCell ⟨b1,0,none⟩ (.int .i64 d0)).setCell ⟨b1,1,none⟩ (.int .i64 d1))).cell? _ = some _ from b0));clear b2;clear b3;replace b6:=eq_true b6;replace b7:=eq_true b7))
    repeat (go_quiet (first | (go_at_call 60;(with_reducible refine (numnahref07_Load.calls k1 _ _ l1 _ _ l2 b9 d0 d1 _ ?side1 ?side2 ?side3 ?side4 A5.out).mono ?_);(case side1=>exact cB e6 HB);(case side2=>exact e7.out);(case side3=>exact cB e8 HB);(case side4=>exact e9.out);rintro e w8 ⟨rfl,hb⟩;replace HB:=bB HB hb;(try clear hb)) | ((with_reducible refine gate_dst (N:=8) rfl ?_);refine bx 8 #[.int .i64 0,.int .i64 0] 23 ?_;intro b1 hg w9 hbox hb;have b4:=A_ hbox;have b5:=gw hg HB;have d4:=b5;replace HB:=bB HB hb;clear hb hbox hg;have d5:w9.cell? ⟨b1,0,none⟩ = some (.int .i64 0):=cz b4 0;have d6:w9.cell? ⟨b1,1,none⟩ = some (.int .i64 0):=cz b4 1;have d7:=blk_frozen b4.out 0;have d8:=blk_frozen b4.out 1;have b6:0 ≤ (b9:Int):=of_decide_eq_true (by first | (with_reducible assumption) | assumption);have b7:b9 < (l0.length:Int):=of_decide_eq_true (by first | (with_reducible assumption) | assumption);obtain ⟨b8,d2,b0⟩:=Kd.at_int e5.out b9 b6 b7;cases d2;have b2:b8.block ≠ b1:=Nat.ne_of_lt (Nat.lt_of_lt_of_le (by have:=World.block_lt_of_cell? _ _ b0;first | rwa [add_block] at this | exact this) b5.out);have b3:b8.block ≠ b1:=Nat.ne_of_lt (Nat.lt_of_lt_of_le (by have:=World.block_lt_of_cell? _ _ b0;first | rwa [add_block] at this | exact this) b5.out);replace b0:=(HB.out.cell (World.block_lt_of_cell? w _ b0)).trans b0;replace b0:=(cell_far (p:=⟨b1,0,none⟩) (by first | (rw [add_block];exact b2) | (show (Addr.add _ _).block ≠ _;rw [add_block];exact b2) | exact b2) (.int .i64 d0)).trans b0;replace b0:=(cell_far (p:=⟨b1,1,none⟩) (by first | (rw [add_block];exact b3) | (show (Addr.add _ _).block ≠ _;rw [add_block];exact b3) | exact b3) (.int .i64 d1)).trans b0;(try have d3:=fun (n_:Nat)=>(show ((((w9.drewN n_).setCell ⟨b1,0,none⟩ (.int .i64 d0)).setCell ⟨b1,1,none⟩ (.int .i64 d1))).cell? _ = some _ from b0));clear b2;clear b3;replace b6:=eq_true b6;replace b7:=eq_true b7));try go_wp2_with (first | (go_at_call 60;(with_reducible refine (numnahref07_Load.calls k1 _ _ l1 _ _ l2 b9 d0 d1 _ ?side1 ?side2 ?side3 ?side4 A5.out).mono ?_);(case side1=>exact cB e6 HB);(case side2=>exact e7.out);(case side3=>exact cB e8 HB);(case side4=>exact e9.out);rintro e w8 ⟨rfl,hb⟩;replace HB:=bB HB hb;(try clear hb)) | ((with_reducible refine gate_dst (N:=8) rfl ?_);refine bx 8 #[.int .i64 0,.int .i64 0] 23 ?_;intro b1 hg w9 hbox hb;have b4:=A_ hbox;have b5:=gw hg HB;have d4:=b5;replace HB:=bB HB hb;clear hb hbox hg;have d5:w9.cell? ⟨b1,0,none⟩ = some (.int .i64 0):=cz b4 0;have d6:w9.cell? ⟨b1,1,none⟩ = some (.int .i64 0):=cz b4 1;have d7:=blk_frozen b4.out 0;have d8:=blk_frozen b4.out 1;have b6:0 ≤ (b9:Int):=of_decide_eq_true (by first | (with_reducible assumption) | assumption);have b7:b9 < (l0.length:Int):=of_decide_eq_true (by first | (with_reducible assumption) | assumption);obtain ⟨b8,d2,b0⟩:=Kd.at_int e5.out b9 b6 b7;cases d2;have b2:b8.block ≠ b1:=Nat.ne_of_lt (Nat.lt_of_lt_of_le (by have:=World.block_lt_of_cell? _ _ b0;first | rwa [add_block] at this | exact this) b5.out);have b3:b8.block ≠ b1:=Nat.ne_of_lt (Nat.lt_of_lt_of_le (by have:=World.block_lt_of_cell? _ _ b0;first | rwa [add_block] at this | exact this) b5.out);replace b0:=(HB.out.cell (World.block_lt_of_cell? w _ b0)).trans b0;replace b0:=(cell_far (p:=⟨b1,0,none⟩) (by first | (rw [add_block];exact b2) | (show (Addr.add _ _).block ≠ _;rw [add_block];exact b2) | exact b2) (.int .i64 d0)).trans b0;replace b0:=(cell_far (p:=⟨b1,1,none⟩) (by first | (rw [add_block];exact b3) | (show (Addr.add _ _).block ≠ _;rw [add_block];exact b3) | exact b3) (.int .i64 d1)).trans b0;(try have d3:=fun (n_:Nat)=>(show ((((w9.drewN n_).setCell ⟨b1,0,none⟩ (.int .i64 d0)).setCell ⟨b1,1,none⟩ (.int .i64 d1))).cell? _ = some _ from b0));clear b2;clear b3;replace b6:=eq_true b6;replace b7:=eq_true b7)))
    go_ret
    exact ⟨by first | rfl | (simp [errW_none,errW_some] <;> rfl) | (simp [*,errW_none,errW_some] <;> rfl),bl HB⟩
   rw [if_neg c7] at H
   have h2:=decide_eq_false c7
   clear c7
   have H':=A_ H
   clear H
   go_wp2_with (first | (go_at_call 60;(with_reducible refine (numnahref07_Load.calls k1 _ _ l1 _ _ l2 b9 d0 d1 _ ?side1 ?side2 ?side3 ?side4 A5.out).mono ?_);(case side1=>exact cB e6 HB);(case side2=>exact e7.out);(case side3=>exact cB e8 HB);(case side4=>exact e9.out);rintro e i0 ⟨rfl,hb⟩;replace HB:=bB HB hb;(try clear hb)) | ((with_reducible refine gate_dst (N:=8) rfl ?_);refine bx 8 #[.int .i64 0,.int .i64 0] 23 ?_;intro b1 hg e4 hbox hb;have b4:=A_ hbox;have b5:=gw hg HB;have d4:=b5;replace HB:=bB HB hb;clear hb hbox hg;have d9:e4.cell? ⟨b1,0,none⟩ = some (.int .i64 0):=cz b4 0;have e0:e4.cell? ⟨b1,1,none⟩ = some (.int .i64 0):=cz b4 1;have e1:=blk_frozen b4.out 0;have e2:=blk_frozen b4.out 1;have b6:0 ≤ (b9:Int):=of_decide_eq_true (by first | (with_reducible assumption) | assumption);have b7:b9 < (l0.length:Int):=of_decide_eq_true (by first | (with_reducible assumption) | assumption);obtain ⟨b8,d2,b0⟩:=Kd.at_int e5.out b9 b6 b7;cases d2;have b2:b8.block ≠ b1:=Nat.ne_of_lt (Nat.lt_of_lt_of_le (by have:=World.block_lt_of_cell? _ _ b0;first | rwa [add_block] at this | exact this) b5.out);have b3:b8.block ≠ b1:=Nat.ne_of_lt (Nat.lt_of_lt_of_le (by have:=World.block_lt_of_cell? _ _ b0;first | rwa [add_block] at this | exact this) b5.out);replace b0:=(HB.out.cell (World.block_lt_of_cell? w _ b0)).trans b0;replace b0:=(cell_far (p:=⟨b1,0,none⟩) (by first | (rw [add_block];exact b2) | (show (Addr.add _ _).block ≠ _;rw [add_block];exact b2) | exact b2) (.int .i64 d0)).trans b0;replace b0:=(cell_far (p:=⟨b1,1,none⟩) (by first | (rw [add_block];exact b3) | (show (Addr.add _ _).block ≠ _;rw [add_block];exact b3) | exact b3) (.int .i64 d1)).trans b0;(try have d3:=fun (n_:Nat)=>(show ((((e4.drewN n_).setCell ⟨b1,0,none⟩ (.int .i64 d0)).setCell ⟨b1,1,none⟩ (.int .i64 d1))).cell? _ = some _ from b0));clear b2;clear b3;replace b6:=eq_true b6;replace b7:=eq_true b7))
   repeat (go_quiet (first | (go_at_call 60;(with_reducible refine (numnahref07_Load.calls k1 _ _ l1 _ _ l2 b9 d0 d1 _ ?side1 ?side2 ?side3 ?side4 A5.out).mono ?_);(case side1=>exact cB e6 HB);(case side2=>exact e7.out);(case side3=>exact cB e8 HB);(case side4=>exact e9.out);rintro e i0 ⟨rfl,hb⟩;replace HB:=bB HB hb;(try clear hb)) | ((with_reducible refine gate_dst (N:=8) rfl ?_);refine bx 8 #[.int .i64 0,.int .i64 0] 23 ?_;intro b1 hg e4 hbox hb;have b4:=A_ hbox;have b5:=gw hg HB;have d4:=b5;replace HB:=bB HB hb;clear hb hbox hg;have d9:e4.cell? ⟨b1,0,none⟩ = some (.int .i64 0):=cz b4 0;have e0:e4.cell? ⟨b1,1,none⟩ = some (.int .i64 0):=cz b4 1;have e1:=blk_frozen b4.out 0;have e2:=blk_frozen b4.out 1;have b6:0 ≤ (b9:Int):=of_decide_eq_true (by first | (with_reducible assumption) | assumption);have b7:b9 < (l0.length:Int):=of_decide_eq_true (by first | (with_reducible assumption) | assumption);obtain ⟨b8,d2,b0⟩:=Kd.at_int e5.out b9 b6 b7;cases d2;have b2:b8.block ≠ b1:=Nat.ne_of_lt (Nat.lt_of_lt_of_le (by have:=World.block_lt_of_cell? _ _ b0;first | rwa [add_block] at this | exact this) b5.out);have b3:b8.block ≠ b1:=Nat.ne_of_lt (Nat.lt_of_lt_of_le (by have:=World.block_lt_of_cell? _ _ b0;first | rwa [add_block] at this | exact this) b5.out);replace b0:=(HB.out.cell (World.block_lt_of_cell? w _ b0)).trans b0;replace b0:=(cell_far (p:=⟨b1,0,none⟩) (by first | (rw [add_block];exact b2) | (show (Addr.add _ _).block ≠ _;rw [add_block];exact b2) | exact b2) (.int .i64 d0)).trans b0;replace b0:=(cell_far (p:=⟨b1,1,none⟩) (by first | (rw [add_block];exact b3) | (show (Addr.add _ _).block ≠ _;rw [add_block];exact b3) | exact b3) (.int .i64 d1)).trans b0;(try have d3:=fun (n_:Nat)=>(show ((((e4.drewN n_).setCell ⟨b1,0,none⟩ (.int .i64 d0)).setCell ⟨b1,1,none⟩ (.int .i64 d1))).cell? _ = some _ from b0));clear b2;clear b3;replace b6:=eq_true b6;replace b7:=eq_true b7));try go_wp2_with (first | (go_at_call 60;(with_reducible refine (numnahref07_Load.calls k1 _ _ l1 _ _ l2 b9 d0 d1 _ ?side1 ?side2 ?side3 ?side4 A5.out).mono ?_);(case side1=>exact cB e6 HB);(case side2=>exact e7.out);(case side3=>exact cB e8 HB);(case side4=>exact e9.out);rintro e i0 ⟨rfl,hb⟩;replace HB:=bB HB hb;(try clear hb)) | ((with_reducible refine gate_dst (N:=8) rfl ?_);refine bx 8 #[.int .i64 0,.int .i64 0] 23 ?_;intro b1 hg e4 hbox hb;have b4:=A_ hbox;have b5:=gw hg HB;have d4:=b5;replace HB:=bB HB hb;clear hb hbox hg;have d9:e4.cell? ⟨b1,0,none⟩ = some (.int .i64 0):=cz b4 0;have e0:e4.cell? ⟨b1,1,none⟩ = some (.int .i64 0):=cz b4 1;have e1:=blk_frozen b4.out 0;have e2:=blk_frozen b4.out 1;have b6:0 ≤ (b9:Int):=of_decide_eq_true (by first | (with_reducible assumption) | assumption);have b7:b9 < (l0.length:Int):=of_decide_eq_true (by first | (with_reducible assumption) | assumption);obtain ⟨b8,d2,b0⟩:=Kd.at_int e5.out b9 b6 b7;cases d2;have b2:b8.block ≠ b1:=Nat.ne_of_lt (Nat.lt_of_lt_of_le (by have:=World.block_lt_of_cell? _ _ b0;first | rwa [add_block] at this | exact this) b5.out);have b3:b8.block ≠ b1:=Nat.ne_of_lt (Nat.lt_of_lt_of_le (by have:=World.block_lt_of_cell? _ _ b0;first | rwa [add_block] at this | exact this) b5.out);replace b0:=(HB.out.cell (World.block_lt_of_cell? w _ b0)).trans b0;replace b0:=(cell_far (p:=⟨b1,0,none⟩) (by first | (rw [add_block];exact b2) | (show (Addr.add _ _).block ≠ _;rw [add_block];exact b2) | exact b2) (.int .i64 d0)).trans b0;replace b0:=(cell_far (p:=⟨b1,1,none⟩) (by first | (rw [add_block];exact b3) | (show (Addr.add _ _).block ≠ _;rw [add_block];exact b3) | exact b3) (.int .i64 d1)).trans b0;(try have d3:=fun (n_:Nat)=>(show ((((e4.drewN n_).setCell ⟨b1,0,none⟩ (.int .i64 d0)).setCell ⟨b1,1,none⟩ (.int .i64 d1))).cell? _ = some _ from b0));clear b2;clear b3;replace b6:=eq_true b6;replace b7:=eq_true b7)))
   go_roundg k1
   case measure=>have:=h9.out;omega
   case rel=>exact ⟨(wrap64 (b9 + 1)),(by first | rfl | (simp;done) | (simp [*];done)),H',⟨by have:=h9.out;omega⟩,⟨bl HB⟩⟩
end Go.Proofs.Ytjohcjfmlhihbaa.G
namespace Go.Proofs.Ytjohcjfmlhihbaa.G
open Go.RowKit Go.Proofs.YtjohcjfmlhihbaaW.PrintWords Go.Proofs.YtjohcjfmlhihbaaW.PrintLast Go.Proofs.YtjohcjfmlhihbaaW.PrintMore
set_option maxHeartbeats 8000000
set_option maxRecDepth 100000
attribute [local go_sem] cond_true cond_false fld23_0 fld23_1 fld45_0 fld45_1 fld109_0 fld109_1 fld94_0 fld94_1 max2_int min2_int max_two min_two max_three min_three max_four min_four   -- for this text's walks alone
attribute [local go_sem high] eqA23
def api_Frac_74.l0:Nat → List (S23) → List (S23) → Int → Int → Option (Bool)
 | 0,_,_,_,_=>none
 | k + 1,x0,x1,e0,b5=>if b5 < e0 then (if 0 ≤ b5 then (if b5 < (x0.length:Int) then (if b5 < (x1.length:Int) then (if (!(((rd_T23 x0 b5).f0) == ((rd_T23 x1 b5).f0)) || (!(((rd_T23 x0 b5).f1) == ((rd_T23 x1 b5).f1)))) = true then (some false) else (api_Frac_74.l0 k x0 x1 e0 (wrap64 (b5 + 1)))) else (none)) else (none)) else (none)) else (some true)
def api_Frac_74.f (k:Nat) (l0:List (S23)) (l1:List (S23)):Option (Bool):=if (l0.length:Int) = (l1.length:Int) then (api_Frac_74.l0 k l0 l1 (l0.length:Int) 0) else (some false)
theorem api_Frac_74.mono_l:∀ k,(∀ y0 y1 y2 y3,LeO (api_Frac_74.l0 k y0 y1 y2 y3) (api_Frac_74.l0 (k + 1) y0 y1 y2 y3))
 | 0=>fun _ _ _ _ r h=>by simp [api_Frac_74.l0] at h
 | k + 1=>by
  have d2:=api_Frac_74.mono_l k
  intro y0 y1 y2 y3
  unfold api_Frac_74.l0
  repeat' first
  | (with_reducible exact d2 _ _ _ _)
  | (with_reducible exact LeO.refl _)
  | (with_reducible exact LeO.none _)
  | (with_reducible refine LeO.ite ?_ ?_)
  | (with_reducible refine LeO.bind ?_ (fun _=>?_))
  | exact d2 _ _ _ _
  | exact LeO.none _
  | refine LeO.ite ?_ ?_
  | refine LeO.bind ?_ (fun _=>?_)
theorem api_Frac_74.mono:∀ a0 a1 k,LeO (api_Frac_74.f k a0 a1) (api_Frac_74.f (k + 1) a0 a1):=by
 intro a0 a1 k
 have d2:=api_Frac_74.mono_l k
 unfold api_Frac_74.f
 repeat' first
   | (with_reducible exact d2 _ _ _ _)
   | (with_reducible exact LeO.refl _)
   | (with_reducible exact LeO.none _)
   | (with_reducible refine LeO.ite ?_ ?_)
   | (with_reducible refine LeO.bind ?_ (fun _=>?_))
   | exact d2 _ _ _ _
   | exact LeO.none _
   | refine LeO.ite ?_ ?_
   | refine LeO.bind ?_ (fun _=>?_)
theorem api_Frac_74.calls (k:Nat) (A0:Option Addr) (c0:Nat) (l0:List (S23)) (A1:Option Addr) (c1:Nat) (l1:List (S23)) (r:Bool) (w:World) (e1:Kd.C k23 w A0 l0.length l0) (e2:l0.length ≤ c0) (e3:Kd.C k23 w A1 l1.length l1) (e4:l1.length ≤ c1) (h:api_Frac_74.f k l0 l1 = some r) :
  Calls Try.prog 74 #[.slice A0 l0.length c0,.slice A1 l1.length c1] w fun e w'=>e = .returned (.bool r) ∧ Drawn0 w w':=by
 have e8:=Try.underlying23
 have e5:=Aside0.mk e1
 have h3:=Aside0.mk e2
 clear e1 e2
 have e6:=Aside0.mk e3
 have h4:=Aside0.mk e4
 clear e3 e4
 have H:(if (l0.length:Int) = (l1.length:Int) then (api_Frac_74.l0 k l0 l1 (l0.length:Int) 0) else (some false)) = some r:=h
 clear h
 by_cases c3:(l0.length:Int) = (l1.length:Int)
 case neg =>
  rw [if_neg c3] at H
  have d3:((l0.length:Int) == (l1.length:Int)) = false:=beq_eq_false_iff_ne.mpr c3
  have d4:((l0.length:Int) != (l1.length:Int)) = true:=bne_iff_ne.mpr c3
  have d5:(l0.length == l1.length) = false:=by first | simpa using c3 | (simp at c3 ⊢;omega)
  obtain rfl:=Option.some.inj H
  go_enter Try.func74,Try.ntmps74
  go_wp2
  repeat (go_quiet (fail);try go_wp2)
  go_ret
  exact ⟨by first | rfl | (simp;done) | (simp [*];done),by repeat (first | exact Drawn0.refl _ | apply Drawn0.step)⟩
 rw [if_pos c3] at H
 have d3:((l0.length:Int) == (l1.length:Int)) = true:=beq_iff_eq.mpr c3
 have d4:((l0.length:Int) != (l1.length:Int)) = false:=bne_eq_false_iff_eq.mpr c3
 have d5:(l0.length == l1.length) = true:=by first | simpa using c3 | (simp at c3 ⊢;omega)
 clear c3
 have H':=Aside0.mk H
 clear H
 go_enter Try.func74,Try.ntmps74
 go_wp2
 repeat (go_quiet (fail);try go_wp2)
 go_loopg [13] k (fun kq e9 w'=>∃ (b0:Int),e9 = .int .i64 b0 ∧ Aside0 (api_Frac_74.l0 kq l0 l1 (l0.length:Int) b0 = some r) ∧ Aside0 (kq ≤ k) ∧ Drawn0 w w')
 case atStart=>exact ⟨(0),(by first | rfl | (simp;done) | (simp [*];done)),H',⟨Nat.le_refl _⟩,by repeat (first | exact Drawn0.refl _ | apply Drawn0.step)⟩
 case round =>
  clear H'
  try clear c1
  try clear p2
  try clear c3
  try clear d3
  try clear d4
  try clear d5
  obtain ⟨b0,rfl,HA,e7,⟨m1,rfl⟩⟩:=hrel
  cases gk with
  | zero=>exact absurd HA.out (by simp [api_Frac_74.l0])
  | succ k1 =>
   have H:=HA.out
   clear HA
   simp only [api_Frac_74.l0] at H
   by_cases c4:b0 < (l0.length:Int)
   case neg =>
    rw [if_neg c4] at H
    have d8:decide (b0 < (l0.length:Int)) = false:=decide_eq_false c4
    clear c4
    obtain rfl:=Option.some.inj H
    go_wp2
    repeat (go_quiet (fail);try go_wp2)
    go_ret
    exact ⟨by first | rfl | (simp;done) | (simp [*];done),by repeat (first | exact Drawn0.refl _ | apply Drawn0.step)⟩
   rw [if_pos c4] at H
   have d8:decide (b0 < (l0.length:Int)) = true:=decide_eq_true c4
   clear c4
   by_cases c5:0 ≤ b0
   case neg =>
    rw [if_neg c5] at H
    exact absurd H (by simp)
   rw [if_pos c5] at H
   have h0:decide (0 ≤ b0) = true:=decide_eq_true c5
   clear c5
   by_cases c6:b0 < (l0.length:Int)
   case neg =>
    rw [if_neg c6] at H
    exact absurd H (by simp)
   rw [if_pos c6] at H
   have h1:decide (b0 < (l0.length:Int)) = true:=decide_eq_true c6
   clear c6
   by_cases c7:b0 < (l1.length:Int)
   case neg =>
    rw [if_neg c7] at H
    exact absurd H (by simp)
   rw [if_pos c7] at H
   have h2:decide (b0 < (l1.length:Int)) = true:=decide_eq_true c7
   clear c7
   by_cases c8:(!(((rd_T23 l0 b0).f0) == ((rd_T23 l1 b0).f0)) || (!(((rd_T23 l0 b0).f1) == ((rd_T23 l1 b0).f1)))) = true
   ·rw [if_pos c8] at H
    have d9:(!(((rd_T23 l0 b0).f0) == ((rd_T23 l1 b0).f0)) || (!(((rd_T23 l0 b0).f1) == ((rd_T23 l1 b0).f1)))) = true:=c8
    clear c8
    obtain rfl:=Option.some.inj H
    have b1:0 ≤ (b0:Int):=of_decide_eq_true (by first | (with_reducible assumption) | assumption)
    have b2:b0 < (l0.length:Int):=of_decide_eq_true (by first | (with_reducible assumption) | assumption)
    obtain ⟨d6,d0,b6,b7⟩:=at_T23 e5.out b0 b1 b2
    cases d0
    replace b1:=eq_true b1
    replace b2:=eq_true b2
    have b3:0 ≤ (b0:Int):=of_decide_eq_true (by first | (with_reducible assumption) | assumption)
    have b4:b0 < (l1.length:Int):=of_decide_eq_true (by first | (with_reducible assumption) | assumption)
    obtain ⟨d7,d1,b8,b9⟩:=at_T23 e6.out b0 b3 b4
    cases d1
    replace b3:=eq_true b3
    replace b4:=eq_true b4
    go_wp2
    repeat (go_quiet (fail);try go_wp2)
    go_ret
    exact ⟨by first | rfl | (simp;done) | (simp [*];done),by repeat (first | exact Drawn0.refl _ | apply Drawn0.step)⟩
   rw [if_neg c8] at H
   have d9:(!(((rd_T23 l0 b0).f0) == ((rd_T23 l1 b0).f0)) || (!(((rd_T23 l0 b0).f1) == ((rd_T23 l1 b0).f1)))) = false:=by simpa using c8
   clear c8
   have H':=Aside0.mk H
   clear H
   have b1:0 ≤ (b0:Int):=of_decide_eq_true (by first | (with_reducible assumption) | assumption)
   have b2:b0 < (l0.length:Int):=of_decide_eq_true (by first | (with_reducible assumption) | assumption)
   obtain ⟨d6,d0,b6,b7⟩:=at_T23 e5.out b0 b1 b2
   cases d0
   replace b1:=eq_true b1
   replace b2:=eq_true b2
   have b3:0 ≤ (b0:Int):=of_decide_eq_true (by first | (with_reducible assumption) | assumption)
   have b4:b0 < (l1.length:Int):=of_decide_eq_true (by first | (with_reducible assumption) | assumption)
   obtain ⟨d7,d1,b8,b9⟩:=at_T23 e6.out b0 b3 b4
   cases d1
   replace b3:=eq_true b3
   replace b4:=eq_true b4
   go_wp2
   repeat (go_quiet (fail);try go_wp2)
   go_roundg k1
   case measure=>have:=e7.out;omega
   case rel=>exact ⟨(wrap64 (b0 + 1)),(by first | rfl | (simp;done) | (simp [*];done)),H',⟨by have:=e7.out;omega⟩,by repeat (first | exact Drawn0.refl _ | apply Drawn0.step)⟩
end Go.Proofs.Ytjohcjfmlhihbaa.G
set_option linter.unusedSectionVars false
namespace Go.Proofs.Ytjohcjfmlhihbaa.P
open Go Go.RowKit Go.Proofs.Ytjohcjfmlhihbaa.G
open Go.Proofs.YtjohcjfmlhihbaaW.PrintWords Go.Proofs.YtjohcjfmlhihbaaW.PrintMore
theorem slEq_l0 {a b:List S23} (hl:a.length = b.length) (hs:a.length ≤ 1000000):∀ (d i:Nat),i + d = a.length → a.take i = b.take i → Ev (fun k=>api_Frac_74.l0 k a b (a.length:Int) (i:Int)) (decide (a = b)):=by
 intro d
 induction d with
 | zero =>
  intro i hi ht
  rw [List.take_of_length_le (by omega),List.take_of_length_le (by omega)] at ht
  rw [decide_eq_true ht]
  refine Ev.step (f:=fun _=>some true) (fun k=>?_) (Ev.now _)
  rw [api_Frac_74.l0,if_neg (by omega)]
 | succ d ih =>
  intro i hi ht
  have ha:i < a.length:=by omega
  have hb:i < b.length:=by omega
  by_cases e:a[i] = b[i]
  ·refine Ev.step (fun k=>?_) (ih (i + 1) (by omega) (by rw [List.take_succ_eq_append_getElem ha,List.take_succ_eq_append_getElem hb,ht,e]))
   rw [api_Frac_74.l0,if_pos (by omega),if_pos (by omega),if_pos (by omega),if_pos (by omega),rdT ha,rdT hb,e,if_neg (by simp),wrap_succ (by omega)]
  ·have hne:a ≠ b:=fun h=>e (by subst h;rfl)
   rw [decide_eq_false hne]
   refine Ev.step (f:=fun _=>some false) (fun k=>?_) (Ev.now _)
   rw [api_Frac_74.l0,if_pos (by omega),if_pos (by omega),if_pos (by omega),if_pos (by omega),rdT ha,rdT hb,if_pos]
   apply Classical.byContradiction
   intro h
   apply e
   simp only [Bool.or_eq_true,Bool.not_eq_true',beq_eq_false_iff_ne,not_or,Decidable.not_not,ne_eq] at h
   exact S23_ext h.1 h.2
theorem ev_slEq {a b:List S23} (hs:a.length ≤ 1000000):Ev (fun k=>api_Frac_74.f k a b) (decide (a = b)):=by
 unfold api_Frac_74.f
 by_cases hl:a.length = b.length
 ·refine Ev.congr (fun k=>if_pos (by omega)) ?_
  exact slEq_l0 hl hs a.length 0 (by omega) rfl
 ·rw [decide_eq_false (fun h=>hl (by rw [h]))]
  exact Ev.congr (fun k=>if_neg (by omega)) (Ev.now _)
end Go.Proofs.Ytjohcjfmlhihbaa.P
set_option linter.unusedSectionVars false
namespace Go.Proofs.Ytjohcjfmlhihbaa.P
open Go Go.RowKit Go.Proofs.Ytjohcjfmlhihbaa.G
open Go.Proofs.YtjohcjfmlhihbaaW.PrintWords Go.Proofs.YtjohcjfmlhihbaaW.PrintMore
def rateS (a:S23):Prop:=1 ≤ a.f1 ∧ a.f1 ≤ 100 ∧ 0 ≤ a.f0 ∧ a.f0 ≤ 1000000 ∧ Nat.gcd a.f0.natAbs a.f1.toNat = 1
instance (a:S23):Decidable (rateS a):=by unfold rateS;exact inferInstance
theorem ev_rate1 {a:S23} (ha:inS a):Ev (fun k=>shares_net_areRates_1.f k a.f0 a.f1) (!decide (rateS a)):=by
 unfold shares_net_areRates_1.f
 simp only [within_eq,Option.bind_some]
 by_cases h2:0 ≤ a.f0 ∧ a.f0 ≤ 1000000
 ·refine Ev.congr (fun k=>if_pos (decide_eq_true h2)) ?_
  by_cases h1:1 ≤ a.f1 ∧ a.f1 ≤ 100
  ·refine Ev.congr (fun k=>if_pos (decide_eq_true h1)) ?_
   obtain ⟨b,hb,_,hb2⟩:=ev_valid ha.1 h1.1
   refine Ev.bind hb ?_
   rw [hb2 (by omega)]
   have:(decide (Nat.gcd a.f0.natAbs a.f1.toNat = 1)) = decide (rateS a):=by
    rw [Bool.eq_iff_iff,decide_eq_true_iff,decide_eq_true_iff]
    exact ⟨fun k=>⟨h1.1,h1.2,h2.1,h2.2,k⟩,fun k=>k.2.2.2.2⟩
   rw [this]
   exact Ev.now _
  ·rw [decide_eq_false (fun k:rateS a=>h1 ⟨k.1,k.2.1⟩)]
   exact Ev.congr (fun k=>if_neg (by simpa using h1)) (Ev.now _)
 ·rw [decide_eq_false (fun k:rateS a=>h2 ⟨k.2.2.1,k.2.2.2.1⟩)]
  exact Ev.congr (fun k=>if_neg (by simpa using h2)) (Ev.now _)
theorem indexR_l0 {w:List S23} (hl:w.length ≤ 1000000) (hin:∀ a ∈ w,inS a):∀ (d i:Nat),i + d = w.length → ∃ r:Int,((0 ≤ r) ↔ ¬ ∀ a ∈ w.drop i,rateS a) ∧ Ev (fun k=>index118.l0 k w (w.length:Int) (i:Int)) r:=by
 intro d
 induction d with
 | zero =>
  intro i hi
  rw [List.drop_eq_nil_of_le (by omega)]
  refine ⟨-1,⟨fun e=>by omega,fun e=>absurd (fun a ha=>by cases ha) e⟩,Ev.step (f:=fun _=>some (-1)) (fun k=>?_) (Ev.now _)⟩
  rw [index118.l0,if_neg (by omega)]
 | succ d ih =>
  intro i hi
  have hil:i < w.length:=by omega
  have h1:=ev_rate1 (hin _ (List.getElem_mem hil))
  have start:∀ k,index118.l0 (k + 1) w (w.length:Int) (i:Int) = (shares_net_areRates_1.f k w[i].f0 w[i].f1).bind fun t=>if t = true then some (i:Int) else index118.l0 k w (w.length:Int) ((i + 1:Nat):Int):=by
   intro k
   rw [index118.l0,if_pos (by omega),if_pos (by omega),if_pos (by omega),rdT hil,wrap_succ (by omega)]
  rw [List.drop_eq_getElem_cons hil]
  by_cases hs:rateS w[i]
  ·obtain ⟨r,hr,hev⟩:=ih (i + 1) (by omega)
   refine ⟨r,hr.trans (not_congr ⟨fun h a ha=>?_,fun h a ha=>h a (List.mem_cons_of_mem _ ha)⟩),Ev.step start (Ev.bind h1 ?_)⟩
   ·rcases List.mem_cons.1 ha with rfl | ha
    ·exact hs
    ·exact h a ha
   ·rw [decide_eq_true hs]
    exact Ev.congr (fun k=>if_neg (by decide)) hev
  ·refine ⟨(i:Int),⟨fun _ hall=>hs (hall _ List.mem_cons_self),fun _=>by omega⟩,Ev.step start (Ev.bind h1 ?_)⟩
   rw [decide_eq_false hs]
   exact Ev.congr (fun k=>if_pos rfl) (Ev.now _)
theorem ev_areRates {p:List Int} {u:List S45} {w:List S23} (hl:w.length ≤ 1000000) (hin:∀ a ∈ w,inS a):Ev (fun k=>shares_net_areRates.f k p u w) (decide (w.length = u.length ∧ ∀ a ∈ w,rateS a)):=by
 unfold shares_net_areRates.f
 by_cases h:w.length = u.length
 ·refine Ev.congr (fun k=>if_pos (by omega)) ?_
  obtain ⟨r,hr,hev⟩:=indexR_l0 hl hin w.length 0 (by omega)
  rw [List.drop_zero] at hr
  unfold contains118.f index118.f
  refine Ev.bind (Ev.bind hev (Ev.now _)) ?_
  have:(!decide (r ≥ 0)) = decide (w.length = u.length ∧ ∀ a ∈ w,rateS a):=by
   rw [Bool.eq_iff_iff,Bool.not_eq_true',decide_eq_false_iff_not,decide_eq_true_iff]
   constructor
   ·intro hn;exact ⟨h,Classical.byContradiction fun hc=>hn (hr.2 hc)⟩
   ·intro hn hc;exact hr.1 hc hn.2
  rw [this]
  exact Ev.now _
 ·rw [decide_eq_false (fun k=>h k.1)]
  exact Ev.congr (fun k=>if_neg (by omega)) (Ev.now _)
theorem nonneg_num {q:Rat} {A:Nat} (h0:0 ≤ q) (h:q ≤ (A:Rat)):q.num.natAbs ≤ A * q.den:=num_bound (Rat.le_trans (by have:=Rat.natCast_nonneg (a:=A);grind) h0) h
theorem part_bd {N:Net} {r:Nat → Rat} {m:Nat} (hr:∀ i,i < m → 0 ≤ r i ∧ Sm 1000000 100 (r i)) (q:Nat):∀ i,i ≤ m → (part N r q i).den ≤ 100 ^ i ∧ 0 ≤ part N r q i ∧ part N r q i ≤ ((1000000 * i:Nat):Rat)
 | 0,_=>⟨by rw [show part N r q 0 = 0 from rfl];decide,Rat.le_refl,by rw [show part N r q 0 = 0 from rfl];exact Rat.natCast_nonneg⟩
 | i + 1,h=>by
  obtain ⟨h1,h2,h3⟩:=part_bd (N:=N) hr q i (by omega)
  obtain ⟨r0,rs⟩:=hr i (by omega)
  have rh:=(abs_of rs.num).2
  have rd:=rs.den
  have hp:0 < 100 ^ i:=Nat.pos_of_ne_zero (by simp)
  have e:((1000000 * (i + 1):Nat):Rat) = ((1000000 * i:Nat):Rat) + ((1000000:Nat):Rat):=by push_cast;grind
  have z:(0:Rat) ≤ ((1000000:Nat):Rat):=Rat.natCast_nonneg
  rw [part_succ,e,Nat.pow_succ]
  split
  ·refine ⟨?_,by grind,by grind⟩
   have hd:=Nat.le_of_dvd (Nat.mul_pos (den_pos _) (den_pos _)) (add_den_dvd' (p:=part N r q i) (q:=r i) (D:=(part N r q i).den * (r i).den) (Nat.dvd_mul_right _ _) (Nat.dvd_mul_left _ _) (Nat.mul_pos (den_pos _) (den_pos _)))
   exact Nat.le_trans hd (Nat.mul_le_mul h1 rd)
  ·exact ⟨by omega,h2,by grind⟩
theorem fits_of {a b:Rat} {A B D E:Nat} (a1:a.num.natAbs ≤ A) (a2:a.den ≤ D) (b1:b.num.natAbs ≤ B) (b2:b.den ≤ E) (h:A * E + B * D < 9223372036854775808) (h2:D * E < 9223372036854775808):Fits a b :=
 ⟨Nat.lt_of_le_of_lt (Nat.add_le_add (Nat.mul_le_mul a1 b2) (Nat.mul_le_mul b1 a2)) h,Nat.lt_of_le_of_lt (Nat.mul_le_mul a2 b2) h2⟩
theorem pow_le6 {i:Nat} (h:i ≤ 6):100 ^ i ≤ 1000000000000:=by
 have:100 ^ i ≤ 100 ^ 6:=Nat.pow_le_pow_right (by decide) h
 exact Nat.le_trans this (by decide)
theorem pow_le5 {i:Nat} (h:i ≤ 5):100 ^ i ≤ 10000000000:=by
 have:100 ^ i ≤ 100 ^ 5:=Nat.pow_le_pow_right (by decide) h
 exact Nat.le_trans this (by decide)
section
variable {p:List Int} {u:List S45} (hN:IsN p u) {x:List Rat} (hl:x.length = u.length) (hx:∀ q ∈ x,0 ≤ q ∧ Sm 1000000 100 q)
include hN hl hx
theorem rt_ok:∀ i,i < u.length → 0 ≤ rt x i ∧ Sm 1000000 100 (rt x i):=fun i hi=>by
 rw [rt_get (by omega)]
 exact hx _ (List.getElem_mem (by omega))
theorem lev_ok {i:Nat} (hi:i < u.length):(rt x i / (netOf p u).w i).num.natAbs ≤ 400000000 ∧ (rt x i / (netOf p u).w i).den ≤ 400:=by
 have hw:=hN.wt i hi
 obtain ⟨r0,rs⟩:=rt_ok hN hl hx i hi
 have e2:(netOf p u).w i = ((u[i].f0.toNat:Nat):Rat):=by
  show ((rd_T45 u (i:Int)).f0:Rat) = _
  rw [rdT45 hi]
  have e:u[i].f0 = ((u[i].f0.toNat:Nat):Int):=by omega
  exact (congrArg (fun z:Int=>(z:Rat)) e).trans (Rat.intCast_natCast _)
 rw [e2]
 have n0:0 < u[i].f0.toNat:=by omega
 have h1:=Nat.le_of_dvd (Nat.mul_pos (den_pos _) n0) (over_den (rt x i) n0)
 have h2:(rt x i).den * u[i].f0.toNat ≤ 100 * 4:=Nat.mul_le_mul rs.den (by omega)
 have h3:=over_le n0 r0
 have h4:=nonneg_num h3.1 (Rat.le_trans h3.2 (abs_of rs.num).2)
 refine ⟨?_,by omega⟩
 have:1000000 * (rt x i / ((u[i].f0.toNat:Nat):Rat)).den ≤ 1000000 * 400:=Nat.mul_le_mul_left _ (by omega)
 omega
theorem rates_ok:OkR p u x:=by
 have hr:=rt_ok hN hl hx
 have h6:=hN.u6
 refine ⟨hl,fun q i hi=>?_,fun i j hi hj=>?_,fun i hi=>?_,fun i hi=>?_⟩
 ·obtain ⟨h1,h2,h3⟩:=part_bd (N:=netOf p u) hr q i (by omega)
  have h4:=nonneg_num h2 h3
  have h5:=pow_le5 (i:=i) (by omega)
  have h7:1000000 * i * (part (netOf p u) (rt x) q i).den ≤ 5000000 * 10000000000:=Nat.mul_le_mul (by omega) (by omega)
  exact fits_of (A:=50000000000000000) (D:=10000000000) (B:=1000000) (E:=100) (by omega) (by omega) (hr i hi).2.num (hr i hi).2.den (by decide) (by decide)
 ·have a:=lev_ok hN hl hx hi
  have b:=lev_ok hN hl hx hj
  exact fits_of a.1 a.2 b.1 b.2 (by decide) (by decide)
 ·exact Nat.lt_of_le_of_lt (hr i hi).2.num (by decide)
 ·have:=(hr i hi).2.den;omega
theorem load_bd (q:Nat):((netOf p u).load (rt x) q).den ≤ 1000000000000 ∧ ((netOf p u).load (rt x) q).num.natAbs ≤ 6000000000000000000:=by
 have hr:=rt_ok hN hl hx
 have h6:=hN.u6
 obtain ⟨h1,h2,h3⟩:=part_bd (N:=netOf p u) hr q u.length (Nat.le_refl _)
 have h5:=pow_le6 (i:=u.length) (by omega)
 have e:part (netOf p u) (rt x) q u.length = (netOf p u).load (rt x) q:=rfl
 rw [e] at h1 h2 h3
 have h4:=nonneg_num h2 h3
 have h7:1000000 * u.length * ((netOf p u).load (rt x) q).den ≤ 6000000 * 1000000000000:=Nat.mul_le_mul (by omega) (by omega)
 exact ⟨by omega,by omega⟩
theorem load_cap {q:Nat} (hq:q < p.length):Fits ((netOf p u).load (rt x) q) ((netOf p u).cap q):=by
 have h1:=load_bd hN hl hx q
 have h2:=hN.cap q hq
 refine fits_of h1.2 h1.1 (B:=200) (E:=1) ?_ ?_ (by decide) (by decide)
 ·show ((rd p (q:Int):Int):Rat).num.natAbs ≤ 200
  rw [whole_num,rd_get hq];omega
 ·show ((rd p (q:Int):Int):Rat).den ≤ 1
  rw [whole_den];exact Nat.le_refl _
theorem loads_l0:∀ d i,i + d = p.length → Ev (fun k=>shares_net_loads.l0 k (encL x) (encL ((List.range i).map fun q=>(netOf p u).load (rt x) q)) (p.length:Int) (i:Int) p u) (encL ((List.range p.length).map fun q=>(netOf p u).load (rt x) q)):=by
 intro d
 have h5:=hN.p5
 induction d with
 | zero =>
  intro i hi
  obtain rfl:i = p.length:=by omega
  refine Ev.step (f:=fun _=>some (encL ((List.range p.length).map fun q=>(netOf p u).load (rt x) q))) (fun k=>?_) (Ev.now _)
  rw [shares_net_loads.l0,if_neg (by omega)]
 | succ d ih =>
  intro i hi
  have hn:=ih (i + 1) (by omega)
  have e:encL ((List.range (i + 1)).map fun q=>(netOf p u).load (rt x) q) = encL ((List.range i).map fun q=>(netOf p u).load (rt x) q) ++ [encQ ((netOf p u).load (rt x) i)]:=by
   unfold encL
   rw [List.range_succ,List.map_append,List.map_append];rfl
  rw [e] at hn
  refine Ev.step (fun k=>by rw [shares_net_loads.l0,if_pos (by omega),wrap_succ (by omega)]) (Ev.bind (ev_load hN (rates_ok hN hl hx) i) ?_)
  refine Ev.congr (fun k=>if_pos (by rw [encL_length,List.length_map,List.length_range];omega)) hn
theorem ev_loads:Ev (fun k=>shares_net_loads.f k p u (encL x)) (encL ((List.range p.length).map fun q=>(netOf p u).load (rt x) q)):=loads_l0 hN hl hx p.length 0 (by omega)
theorem possible_l0:∀ d i,i + d = p.length → Ev (fun k=>numnahref07_Possible.l0 k p u (encL x) (i:Int)) (allF (fun q=>decide ((netOf p u).load (rt x) q ≤ (netOf p u).cap q)) d i):=by
 intro d
 have h5:=hN.p5
 induction d with
 | zero =>
  intro i hi
  refine Ev.step (f:=fun _=>some true) (fun k=>?_) (Ev.now _)
  rw [numnahref07_Possible.l0,if_neg (by omega)]
 | succ d ih =>
  intro i hi
  have hil:i < p.length:=by omega
  have hb:=load_bd hN hl hx i
  have hc:=hN.cap i hil
  rw [allF]
  refine Ev.step (fun k=>by rw [numnahref07_Possible.l0,if_pos (by omega),wrap_succ (by omega)]) (Ev.bind (ev_rload hN (rates_ok hN hl hx) i) ?_)
  refine Ev.congr (fun k=>if_pos (by omega)) ?_
  have ew:wrap64 (rd p (i:Int) * (((netOf p u).load (rt x) i).den:Int)) = rd p (i:Int) * (((netOf p u).load (rt x) i).den:Int):=by
   rw [rd_get hil]
   refine wrap_abs ?_
   rw [Int.natAbs_mul,Int.natAbs_natCast]
   exact Nat.lt_of_le_of_lt (Nat.mul_le_mul (show p[i].natAbs ≤ 200 by omega) hb.1) (by decide)
  have key:((netOf p u).load (rt x) i).num > rd p (i:Int) * (((netOf p u).load (rt x) i).den:Int) ↔ ¬ (netOf p u).load (rt x) i ≤ (netOf p u).cap i:=by
   rw [Rat.not_le,show (netOf p u).cap i = ((rd p (i:Int):Int):Rat) from rfl,← less_iff,whole_num,whole_den]
   constructor <;> intro h <;> (push_cast at h ⊢;omega)
  by_cases hh:(netOf p u).load (rt x) i ≤ (netOf p u).cap i
  ·rw [decide_eq_true hh]
   exact Ev.congr (fun k=>if_neg (by rw [ew,key];exact fun h=>h hh)) (ih (i + 1) (by omega))
  ·rw [decide_eq_false hh]
   exact Ev.congr (fun k=>if_pos (by rw [ew,key];exact hh)) (Ev.now _)
theorem ev_possible:Ev (fun k=>numnahref07_Possible.f k p u (encL x)) (allF (fun q=>decide ((netOf p u).load (rt x) q ≤ (netOf p u).cap q)) p.length 0):=possible_l0 hN hl hx p.length 0 (by omega)
def unheld (p:List Int) (u:List S45) (x:List Rat) (v:Nat):Bool:=decide (firstI (fun q=>holdsB (netOf p u) (rt x) q v) p.length 0 < 0)
theorem better_l1:∀ d i,i + d = u.length → Ev (fun k=>shares_Better.l1 k (encL x) (u.length:Int) (i:Int) p u) (firstI (unheld p u x) d i,0):=by
 intro d
 have h6:=hN.u6
 induction d with
 | zero =>
  intro i hi
  refine Ev.step (f:=fun _=>some (-1,0)) (fun k=>?_) (Ev.now _)
  rw [shares_Better.l1,if_neg (by omega)]
 | succ d ih =>
  intro i hi
  have hil:i < u.length:=by omega
  rw [firstI]
  refine Ev.step (fun k=>by rw [shares_Better.l1,if_pos (by omega),wrap_succ (by omega)]) (Ev.bind (ev_held hN (rates_ok hN hl hx) hil) ?_)
  by_cases hh:firstI (fun q=>holdsB (netOf p u) (rt x) q i) p.length 0 < 0
  ·have hu:unheld p u x i = true:=decide_eq_true hh
   rw [hu,if_pos rfl]
   exact Ev.congr (fun k=>if_pos hh) (Ev.now _)
  ·have hu:unheld p u x i = false:=decide_eq_false hh
   rw [hu,if_neg (by decide)]
   exact Ev.congr (fun k=>if_neg hh) (ih (i + 1) (by omega))
theorem better_l0:∀ d i,i + d = p.length → Ev (fun k=>shares_Better.l0 k p u (encL x) (encL ((List.range p.length).map fun q=>(netOf p u).load (rt x) q)) (p.length:Int) (i:Int) p u) (if allF (fun q=>decide ((netOf p u).load (rt x) q ≤ (netOf p u).cap q)) d i = true then (firstI (unheld p u x) u.length 0,0) else (0,10)):=by
 intro d
 have h5:=hN.p5
 induction d with
 | zero =>
  intro i hi
  rw [allF,if_pos rfl]
  refine Ev.step (fun k=>?_) (better_l1 hN hl hx u.length 0 (by omega))
  rw [shares_Better.l0,if_neg (by omega)];rfl
 | succ d ih =>
  intro i hi
  have hil:i < p.length:=by omega
  have hlen:(encL ((List.range p.length).map fun q=>(netOf p u).load (rt x) q)).length = p.length:=by rw [encL_length,List.length_map,List.length_range]
  have hg:rd_T23 (encL ((List.range p.length).map fun q=>(netOf p u).load (rt x) q)) (i:Int) = encQ ((netOf p u).load (rt x) i):=by
   rw [encT (by rw [List.length_map,List.length_range];exact hil),rt_get (by rw [List.length_map,List.length_range];exact hil),List.getElem_map,List.getElem_range]
  have hc:=ev_compare (load_cap hN hl hx hil)
  rw [show (netOf p u).cap i = ((rd p (i:Int):Int):Rat) from rfl,whole_num,whole_den] at hc
  rw [allF]
  refine Ev.step (fun k=>by rw [shares_Better.l0,if_pos (by omega),if_pos (by omega),if_pos (by omega),if_pos (by omega),hg,wrap_succ (by omega)]) ?_
  unfold shares_whole.f
  simp only [Option.bind_some]
  refine Ev.bind hc ?_
  by_cases hh:(netOf p u).load (rt x) i ≤ (netOf p u).cap i
  ·rw [decide_eq_true hh,Bool.true_and]
   refine Ev.congr (fun k=>if_neg ?_) (ih (i + 1) (by omega))
   rw [cmpR_gt];exact Rat.not_lt.2 hh
  ·rw [decide_eq_false hh,Bool.false_and,if_neg (by decide)]
   exact Ev.congr (fun k=>if_pos ((cmpR_gt _ _).2 (Rat.not_le.1 hh))) (Ev.now _)
end
end Go.Proofs.Ytjohcjfmlhihbaa.P
namespace Go.Proofs.Ytjohcjfmlhihbaa.G
open Go.RowKit Go.Proofs.YtjohcjfmlhihbaaW.PrintWords Go.Proofs.YtjohcjfmlhihbaaW.PrintLast Go.Proofs.YtjohcjfmlhihbaaW.PrintMore
set_option maxHeartbeats 8000000
set_option maxRecDepth 100000
attribute [local go_sem] cond_true cond_false fld23_0 fld23_1 fld45_0 fld45_1 fld109_0 fld109_1 fld94_0 fld94_1 max2_int min2_int max_two min_two max_three min_three max_four min_four
mutual
def shares_Check.j0:Nat → List (S23) → List Int → Bool → List Int → List (S45) → Option (Int)
 | 0,_,_,_,_,_=>none
 | k + 1,x2,x3,x32,b5,b6=>if x32 = true then (some 10) else (shares_Check.l0 k x2 x3 (x3.length:Int) 0 b5 b6)
def shares_Check.l0:Nat → List (S23) → List Int → Int → Int → List Int → List (S45) → Option (Int)
 | 0,_,_,_,_,_,_=>none
 | k + 1,x2,m2,n2,d7,b5,b6=>if d7 < n2 then (if 0 ≤ d7 then (if d7 < (m2.length:Int) then ((shares_net_holds.f k b5 b6 x2 (rd m2 d7) d7).bind fun d4=>(if d4 = true then (shares_Check.l0 k x2 m2 n2 (wrap64 (d7 + 1)) b5 b6) else (some 10))) else (none)) else (none)) else (some 0)
end
def shares_Check.f (k:Nat) (l0:List Int) (l1:List (S45)) (l2:List (S23)) (l3:List Int):Option (Int):=(shares_newNet.f k l0 l1).bind fun d3=>(if d3 = true then ((shares_net_fair.f k l0 l1).bind fun b4=>((api_Frac_74.f k l2 b4).bind fun b8=>(if b8 = true then (shares_Check.j0 k l2 l3 ((l3.length:Int) != (l1.length:Int)) l0 l1) else (shares_Check.j0 k l2 l3 true l0 l1)))) else (some 2))
theorem shares_Check.mono_l:∀ k,(∀ y0 y1 y2 y3 y4,LeO (shares_Check.j0 k y0 y1 y2 y3 y4) (shares_Check.j0 (k + 1) y0 y1 y2 y3 y4)) ∧ (∀ y0 y1 y2 y3 y4 y5,LeO (shares_Check.l0 k y0 y1 y2 y3 y4 y5) (shares_Check.l0 (k + 1) y0 y1 y2 y3 y4 y5))
 | 0=>⟨fun _ _ _ _ _ r h=>by simp [shares_Check.j0] at h,fun _ _ _ _ _ _ r h=>by simp [shares_Check.l0] at h⟩
 | k + 1=>by
  obtain ⟨h0,h1⟩:=shares_Check.mono_l k
  refine ⟨?_,?_⟩
  ·intro y0 y1 y2 y3 y4
   unfold shares_Check.j0
   repeat' first
   | (with_reducible first | exact h0 _ _ _ _ _ | exact h1 _ _ _ _ _ _ | exact api_Frac_74.mono _ _ _ | exact shares_net_fair.mono _ _ _ | exact shares_net_holds.mono _ _ _ _ _ _ | exact shares_newNet.mono _ _ _ | exact LeO.refl _ | exact LeO.none _ | refine LeO.ite ?_ ?_ | refine LeO.bind ?_ (fun _=>?_))
   | exact LeO.none _ | refine LeO.ite ?_ ?_ | refine LeO.bind ?_ (fun _=>?_)
  intro y0 y1 y2 y3 y4 y5
  unfold shares_Check.l0
  repeat' first
  | (with_reducible first | exact h0 _ _ _ _ _ | exact h1 _ _ _ _ _ _ | exact api_Frac_74.mono _ _ _ | exact shares_net_fair.mono _ _ _ | exact shares_net_holds.mono _ _ _ _ _ _ | exact shares_newNet.mono _ _ _ | exact LeO.refl _ | exact LeO.none _ | refine LeO.ite ?_ ?_ | refine LeO.bind ?_ (fun _=>?_))
  | exact LeO.none _ | refine LeO.ite ?_ ?_ | refine LeO.bind ?_ (fun _=>?_)
theorem shares_Check.mono:∀ a0 a1 a2 a3 k,LeO (shares_Check.f k a0 a1 a2 a3) (shares_Check.f (k + 1) a0 a1 a2 a3):=by
 intro a0 a1 a2 a3 k
 obtain ⟨h0,h1⟩:=shares_Check.mono_l k
 unfold shares_Check.f
 repeat' first
   | (with_reducible first | exact h0 _ _ _ _ _ | exact h1 _ _ _ _ _ _ | exact api_Frac_74.mono _ _ _ | exact shares_net_fair.mono _ _ _ | exact shares_net_holds.mono _ _ _ _ _ _ | exact shares_newNet.mono _ _ _ | exact LeO.refl _ | exact LeO.none _ | refine LeO.ite ?_ ?_ | refine LeO.bind ?_ (fun _=>?_))
   | exact LeO.none _ | refine LeO.ite ?_ ?_ | refine LeO.bind ?_ (fun _=>?_)
theorem shares_Check.calls (k:Nat) (A0:Option Addr) (c0:Nat) (l0:List Int) (A1:Option Addr) (c1:Nat) (l1:List (S45)) (A2:Option Addr) (c2:Nat) (l2:List (S23)) (A3:Option Addr) (c3:Nat) (l3:List Int) (r:Int) (w:World) (n3:Kd.C (Kd.int .i64) w A0 l0.length l0) (n4:l0.length ≤ c0) (n5:Kd.C k45 w A1 l1.length l1) (n6:l1.length ≤ c1) (n7:Kd.C k23 w A2 l2.length l2) (n8:l2.length ≤ c2) (n9:Kd.C (Kd.int .i64) w A3 l3.length l3) (o0:l3.length ≤ c3) (h:shares_Check.f k l0 l1 l2 l3 = some r) :
  Calls Try.prog 40 #[.slice A0 l0.length c0,.slice A1 l1.length c1,.slice A2 l2.length c2,.slice A3 l3.length c3] w fun e w'=>e = .returned (.int .i64 r) ∧ Below w.heap.size w w':=by
 have o1:=Try.underlying109
 have d8:=A_ n3
 have d9:=A_ n4
 clear n3 n4
 have e0:=A_ n5
 have e1:=A_ n6
 clear n5 n6
 have h2:=A_ n7
 have h3:=A_ n8
 clear n7 n8
 have o2:=A_ n9
 have p9:=A_ o0
 clear n9 o0
 have HB:=A_ (Below.refl w.heap.size w)
 have H:((shares_newNet.f k l0 l1).bind fun d3=>(if d3 = true then ((shares_net_fair.f k l0 l1).bind fun b4=>((api_Frac_74.f k l2 b4).bind fun b8=>(if b8 = true then (shares_Check.j0 k l2 l3 ((l3.length:Int) != (l1.length:Int)) l0 l1) else (shares_Check.j0 k l2 l3 true l0 l1)))) else (some 2))) = some r:=h
 clear h
 replace H:=Option.bind_eq_some_iff.mp H
 obtain ⟨d3,o3,H⟩:=H
 replace H:(if d3 = true then ((shares_net_fair.f k l0 l1).bind fun b4=>((api_Frac_74.f k l2 b4).bind fun b8=>(if b8 = true then (shares_Check.j0 k l2 l3 ((l3.length:Int) != (l1.length:Int)) l0 l1) else (shares_Check.j0 k l2 l3 true l0 l1)))) else (some 2)) = some r:=H
 have A5:=A_ o3
 clear o3
 by_cases c6:d3 = true
 case neg =>
  replace c6:=Bool.eq_false_iff.mpr c6
  subst c6
  rw [if_neg (show ¬ (false = true) by decide)] at H
  obtain rfl:=Option.some.inj H
  go_enter Try.func40,Try.ntmps40
  go_wp2_with (first | ((with_reducible refine gate_callee (f:=70) rfl ?_);refine gL (some 16) Try.func70 #[.slice A0 l0.length c0,.slice A1 l1.length c1] ?_;(with_reducible refine (shares_newNet.calls k _ _ l0 _ _ l1 false _ ?side1 ?side2 ?side3 ?side4 A5.out).mono ?_);(case side1=>repeat (first | exact d8.out | (with_reducible refine Kd.C_alloc ?_ _) | (with_reducible refine Kd.C_drewN ?_ _) | (with_reducible refine Kd.C_drew ?_)));(case side2=>exact d9.out);(case side3=>repeat (first | exact e0.out | (with_reducible refine Kd.C_alloc ?_ _) | (with_reducible refine Kd.C_drewN ?_ _) | (with_reducible refine Kd.C_drew ?_)));(case side4=>exact e1.out);rintro e q0 ⟨rfl,hb⟩;refine ⟨_,rfl,?_⟩;replace HB:=bB HB hb;(try clear hb)) | ((with_reducible refine gate_dst (N:=9) rfl ?_);(try (refine gate_guard (by rfl) ?_;dsimp only));refine bx 9 #[.slice none 0 0,.slice none 0 0] 109 ?_;intro d5 hg o4 hbox hb;have d1:=A_ hbox;have e3:=gw hg HB;have o5:=e3;replace HB:=bB HB hb;clear hb hbox hg;have h4:o4.cell? ⟨d5,0,none⟩ = some (.slice none 0 0):=cz d1 0;have h5:o4.cell? ⟨d5,1,none⟩ = some (.slice none 0 0):=cz d1 1;have h6:=blk_frozen d1.out 0;have h7:=blk_frozen d1.out 1))
  go_ret
  exact ⟨by first | rfl | (simp [errW_none,errW_some] <;> rfl) | (simp [*,errW_none,errW_some] <;> rfl),bl HB⟩
 subst c6
 rw [if_pos rfl] at H
 have m3:=A_ H
 clear H
 go_enter Try.func40,Try.ntmps40
 go_upto_region 4 with (first | ((with_reducible refine gate_callee (f:=70) rfl ?_);refine gL (some 16) Try.func70 #[.slice A0 l0.length c0,.slice A1 l1.length c1] ?_;(with_reducible refine (shares_newNet.calls k _ _ l0 _ _ l1 true _ ?side1 ?side2 ?side3 ?side4 A5.out).mono ?_);(case side1=>repeat (first | exact d8.out | (with_reducible refine Kd.C_alloc ?_ _) | (with_reducible refine Kd.C_drewN ?_ _) | (with_reducible refine Kd.C_drew ?_)));(case side2=>exact d9.out);(case side3=>repeat (first | exact e0.out | (with_reducible refine Kd.C_alloc ?_ _) | (with_reducible refine Kd.C_drewN ?_ _) | (with_reducible refine Kd.C_drew ?_)));(case side4=>exact e1.out);rintro e w8 ⟨rfl,hb⟩;refine ⟨_,rfl,?_⟩;replace HB:=bB HB hb;(try clear hb)) | ((with_reducible refine gate_dst (N:=9) rfl ?_);(try (refine gate_guard (by rfl) ?_;dsimp only));refine bx 9 #[.slice none 0 0,.slice none 0 0] 109 ?_;intro b2 hg w9 hbox hb;have b0:=A_ hbox;have e4:=gw hg HB;have o6:=e4;replace HB:=bB HB hb;clear hb hbox hg;have h8:w9.cell? ⟨b2,0,none⟩ = some (.slice none 0 0):=cz b0 0;have h9:w9.cell? ⟨b2,1,none⟩ = some (.slice none 0 0):=cz b0 1;have i0:=blk_frozen b0.out 0;have i1:=blk_frozen b0.out 1))
 (try simp only [Act.put,List.setIfInBounds_toArray,List.set_cons_zero,List.set_cons_succ])
 go_cut [32] (fun p7 wc=>∃ (kq:Nat) (d2:Bool),p7 = .bool d2 ∧ Aside0 (shares_Check.j0 kq l2 l3 d2 l0 l1 = some r) ∧ Aside0 (kq ≤ k) ∧ Aside0 (wc.heap[b2]? = some (.cells #[(.slice A0 l0.length c0),(.slice A1 l1.length c1)] 109 (0,0))) ∧ Aside0 (Below w.heap.size w wc))
 case first =>
  have H:=m3.out
  clear m3
  replace H:=Option.bind_eq_some_iff.mp H
  obtain ⟨b4,e5,H⟩:=H
  replace H:((api_Frac_74.f k l2 b4).bind fun b8=>(if b8 = true then (shares_Check.j0 k l2 l3 ((l3.length:Int) != (l1.length:Int)) l0 l1) else (shares_Check.j0 k l2 l3 true l0 l1))) = some r:=H
  have o7:=A_ e5
  clear e5
  replace H:=Option.bind_eq_some_iff.mp H
  obtain ⟨b8,e6,H⟩:=H
  replace H:(if b8 = true then (shares_Check.j0 k l2 l3 ((l3.length:Int) != (l1.length:Int)) l0 l1) else (shares_Check.j0 k l2 l3 true l0 l1)) = some r:=H
  have o8:=A_ e6
  clear e6
  by_cases i2:b8 = true
  ·subst i2
   rw [if_pos rfl] at H
   have H':=A_ H
   clear H
   have i3:w9.cell? ⟨b2,0,none⟩ = some (.slice none 0 0):=cz b0 0
   have i4:w9.cell? ⟨b2,1,none⟩ = some (.slice none 0 0):=cz b0 1
   have i5:=blk_frozen b0.out 0
   have i6:=blk_frozen b0.out 1
   go_wp2_with (first | ((with_reducible refine gate_callee (f:=71) rfl ?_);refine gL (some 23) Try.func71 #[.agg #[.slice A0 l0.length c0,.slice A1 l1.length c1]] ?_;(with_reducible refine (shares_net_fair.calls k _ _ l0 _ _ l1 b4 _ ?side1 ?side2 ?side3 ?side4 o7.out).mono ?_);(case side1=>exact Kd.C_below d8.out (bl HB));(case side2=>exact d9.out);(case side3=>exact Kd.C_below e0.out (bl HB));(case side4=>exact e1.out);rintro e q1 ⟨m4,rfl,m5,hb⟩;refine ⟨_,rfl,?_⟩;have b7:=A_ (Kd.R_lower m5 (below_size (bl HB)));replace b0:=A_ (blk_below (g:=b2) (o:=.cells #[.slice A0 l0.length c0,.slice A1 l1.length c1] 109 (0,0)) (by (with_reducible repeat (first | refine blk_drewN ?_ _ | refine blk_drew ?_ | refine blk_alloc ?_ _));refine blk_put (cs:=#[.slice A0 l0.length c0,.slice none 0 0]) ?_ 1 _ rfl;(with_reducible repeat (first | refine blk_drewN ?_ _ | refine blk_drew ?_ | refine blk_alloc ?_ _));refine blk_put (cs:=#[.slice none 0 0,.slice none 0 0]) ?_ 0 _ rfl;(with_reducible repeat (first | refine blk_drewN ?_ _ | refine blk_drew ?_ | refine blk_alloc ?_ _));exact b0.out) hb);replace HB:=bB HB hb;(try clear hb);obtain ⟨m6,m7,m8⟩:=Kd.R_slice b7.out;subst m8) | ((with_reducible refine gate_callee (f:=74) rfl ?_);refine gL (some 24) Try.func74 #[.slice A2 l2.length c2,.slice m6 b4.length m7] ?_;(with_reducible refine (api_Frac_74.calls k _ _ l2 _ _ b4 true _ ?side1 ?side2 ?side3 ?side4 o8.out).mono ?_);(case side1=>exact cB h2 HB);(case side2=>exact h3.out);(case side3=>repeat (first | exact (Kd.R_reads' b7.out).2.2 | (with_reducible refine Kd.C_alloc ?_ _) | (with_reducible refine Kd.C_drewN ?_ _) | (with_reducible refine Kd.C_drew ?_)));(case side4=>exact (Kd.R_reads' b7.out).2.1);rintro e w' ⟨rfl,⟨nd,rfl⟩⟩;refine ⟨_,rfl,?_⟩))
   go_meet
   case rel=>exact ⟨_,(((l3.length:Int) != (l1.length:Int))),(by first | rfl | (simp;done) | (simp [*];done)),H',⟨by first | omega | exact Nat.le_refl _⟩,⟨by (with_reducible repeat (first | refine blk_drewN ?_ _ | refine blk_drew ?_ | refine blk_alloc ?_ _));exact b0.out⟩,⟨bl HB⟩⟩
  replace i2:=Bool.eq_false_iff.mpr i2
  subst i2
  rw [if_neg (show ¬ (false = true) by decide)] at H
  have H':=A_ H
  clear H
  have i7:w9.cell? ⟨b2,0,none⟩ = some (.slice none 0 0):=cz b0 0
  have i8:w9.cell? ⟨b2,1,none⟩ = some (.slice none 0 0):=cz b0 1
  have i9:=blk_frozen b0.out 0
  have j5:=blk_frozen b0.out 1
  go_wp2_with (first | ((with_reducible refine gate_callee (f:=71) rfl ?_);refine gL (some 23) Try.func71 #[.agg #[.slice A0 l0.length c0,.slice A1 l1.length c1]] ?_;(with_reducible refine (shares_net_fair.calls k _ _ l0 _ _ l1 b4 _ ?side1 ?side2 ?side3 ?side4 o7.out).mono ?_);(case side1=>exact Kd.C_below d8.out (bl HB));(case side2=>exact d9.out);(case side3=>exact Kd.C_below e0.out (bl HB));(case side4=>exact e1.out);rintro e q2 ⟨m4,rfl,m5,hb⟩;refine ⟨_,rfl,?_⟩;have b7:=A_ (Kd.R_lower m5 (below_size (bl HB)));replace b0:=A_ (blk_below (g:=b2) (o:=.cells #[.slice A0 l0.length c0,.slice A1 l1.length c1] 109 (0,0)) (by (with_reducible repeat (first | refine blk_drewN ?_ _ | refine blk_drew ?_ | refine blk_alloc ?_ _));refine blk_put (cs:=#[.slice A0 l0.length c0,.slice none 0 0]) ?_ 1 _ rfl;(with_reducible repeat (first | refine blk_drewN ?_ _ | refine blk_drew ?_ | refine blk_alloc ?_ _));refine blk_put (cs:=#[.slice none 0 0,.slice none 0 0]) ?_ 0 _ rfl;(with_reducible repeat (first | refine blk_drewN ?_ _ | refine blk_drew ?_ | refine blk_alloc ?_ _));exact b0.out) hb);replace HB:=bB HB hb;(try clear hb);obtain ⟨m9,n0,n1⟩:=Kd.R_slice b7.out;subst n1) | ((with_reducible refine gate_callee (f:=74) rfl ?_);refine gL (some 24) Try.func74 #[.slice A2 l2.length c2,.slice m9 b4.length n0] ?_;(with_reducible refine (api_Frac_74.calls k _ _ l2 _ _ b4 false _ ?side1 ?side2 ?side3 ?side4 o8.out).mono ?_);(case side1=>exact cB h2 HB);(case side2=>exact h3.out);(case side3=>repeat (first | exact (Kd.R_reads' b7.out).2.2 | (with_reducible refine Kd.C_alloc ?_ _) | (with_reducible refine Kd.C_drewN ?_ _) | (with_reducible refine Kd.C_drew ?_)));(case side4=>exact (Kd.R_reads' b7.out).2.1);rintro e w' ⟨rfl,⟨nd,rfl⟩⟩;refine ⟨_,rfl,?_⟩))
  go_meet
  case rel=>exact ⟨_,(true),(by first | rfl | (simp;done) | (simp [*];done)),H',⟨by first | omega | exact Nat.le_refl _⟩,⟨by (with_reducible repeat (first | refine blk_drewN ?_ _ | refine blk_drew ?_ | refine blk_alloc ?_ _));exact b0.out⟩,⟨bl HB⟩⟩
 case rest =>
  clear m3
  obtain ⟨kq,d2,rfl,HA,o9,b0,HB⟩:=hcut
  cases kq with
  | zero=>exact absurd HA.out (by simp [shares_Check.j0])
  | succ p0 =>
   have H:=HA.out
   clear HA
   simp only [shares_Check.j0] at H
   by_cases j7:d2 = true
   ·subst j7
    rw [if_pos rfl] at H
    obtain rfl:=Option.some.inj H
    go_wp2
    go_ret
    exact ⟨by first | rfl | (simp [errW_none,errW_some] <;> rfl) | (simp [*,errW_none,errW_some] <;> rfl),bl HB⟩
   replace j7:=Bool.eq_false_iff.mpr j7
   subst j7
   rw [if_neg (show ¬ (false = true) by decide)] at H
   have H':=A_ H
   clear H
   go_wp2
   go_loopg [35] p0 (fun kq p8 w'=>∃ (b1:Int),p8 = .int .i64 b1 ∧ Aside0 (shares_Check.l0 kq l2 l3 (l3.length:Int) b1 l0 l1 = some r) ∧ Aside0 (kq ≤ p0) ∧ Aside0 (w'.heap[b2]? = some (.cells #[(.slice A0 l0.length c0),(.slice A1 l1.length c1)] 109 (0,0))) ∧ Aside0 (Below w.heap.size w w'))
   case atStart=>exact ⟨(0),(by first | rfl | (simp;done) | (simp [*];done)),H',⟨Nat.le_refl _⟩,⟨by (with_reducible repeat (first | refine blk_drewN ?_ _ | refine blk_drew ?_ | refine blk_alloc ?_ _));exact b0.out⟩,⟨bl HB⟩⟩
   case round =>
    clear H'
    obtain ⟨b1,rfl,HA,p1,b0,HB⟩:=hrel
    cases gk with
    | zero=>exact absurd HA.out (by simp [shares_Check.l0])
    | succ k2 =>
     have H:=HA.out
     clear HA
     simp only [shares_Check.l0] at H
     by_cases e2:b1 < (l3.length:Int)
     case neg =>
      rw [if_neg e2] at H
      have e7:=decide_eq_false e2
      clear e2
      obtain rfl:=Option.some.inj H
      go_wp2
      go_ret
      exact ⟨by first | rfl | (simp [errW_none,errW_some] <;> rfl) | (simp [*,errW_none,errW_some] <;> rfl),bl HB⟩
     rw [if_pos e2] at H
     have e7:=decide_eq_true e2
     clear e2
     replace H:=gd H
     obtain ⟨p2,H⟩:=H
     have p3:=decide_eq_true p2
     clear p2
     replace H:=gd H
     obtain ⟨p4,H⟩:=H
     have p5:=decide_eq_true p4
     clear p4
     replace H:=Option.bind_eq_some_iff.mp H
     obtain ⟨d4,e8,H⟩:=H
     replace H:(if d4 = true then (shares_Check.l0 k2 l2 l3 (l3.length:Int) (wrap64 (b1 + 1)) l0 l1) else (some 10)) = some r:=H
     have p6:=A_ e8
     clear e8
     by_cases j8:d4 = true
     case neg =>
      replace j8:=Bool.eq_false_iff.mpr j8
      subst j8
      rw [if_neg (show ¬ (false = true) by decide)] at H
      obtain rfl:=Option.some.inj H
      have b9:0 ≤ (b1:Int):=of_decide_eq_true (by first | (with_reducible assumption) | assumption)
      have d0:b1 < (l3.length:Int):=of_decide_eq_true (by first | (with_reducible assumption) | assumption)
      obtain ⟨e9,d6,b3⟩:=Kd.at_int o2.out b1 b9 d0
      cases d6
      replace b3:=(HB.out.cell (World.block_lt_of_cell? w _ b3)).trans b3
      replace b9:=eq_true b9
      replace d0:=eq_true d0
      have j9:wr.cell? ⟨b2,0,none⟩ = some (.slice A0 l0.length c0):=cz b0 0
      have l5:wr.cell? ⟨b2,1,none⟩ = some (.slice A1 l1.length c1):=cz b0 1
      have l6:=blk_frozen b0.out 0
      have l7:=blk_frozen b0.out 1
      go_wp2_with (first | ((with_reducible refine gate_callee (f:=76) rfl ?_);refine gL (some 44) Try.func76 #[.agg #[.slice A0 l0.length c0,.slice A1 l1.length c1],.slice A2 l2.length c2,.int .i64 (rd l3 b1),.int .i64 b1] ?_;(with_reducible refine (shares_net_holds.calls k2 _ _ l0 _ _ l1 _ _ l2 (rd l3 b1) b1 false _ ?side1 ?side2 ?side3 ?side4 ?side5 ?side6 p6.out).mono ?_);(case side1=>exact cB d8 HB);(case side2=>exact d9.out);(case side3=>exact cB e0 HB);(case side4=>exact e1.out);(case side5=>exact cB h2 HB);(case side6=>exact h3.out);rintro e q3 ⟨rfl,hb⟩;refine ⟨_,rfl,?_⟩;replace b0:=kB b0 hb;replace HB:=bB HB hb;(try clear hb)))
      go_ret
      exact ⟨by first | rfl | (simp [errW_none,errW_some] <;> rfl) | (simp [*,errW_none,errW_some] <;> rfl),bl HB⟩
     subst j8
     rw [if_pos rfl] at H
     have H':=A_ H
     clear H
     have b9:0 ≤ (b1:Int):=of_decide_eq_true (by first | (with_reducible assumption) | assumption)
     have d0:b1 < (l3.length:Int):=of_decide_eq_true (by first | (with_reducible assumption) | assumption)
     obtain ⟨e9,d6,b3⟩:=Kd.at_int o2.out b1 b9 d0
     cases d6
     replace b3:=(HB.out.cell (World.block_lt_of_cell? w _ b3)).trans b3
     replace b9:=eq_true b9
     replace d0:=eq_true d0
     have l8:wr.cell? ⟨b2,0,none⟩ = some (.slice A0 l0.length c0):=cz b0 0
     have l9:wr.cell? ⟨b2,1,none⟩ = some (.slice A1 l1.length c1):=cz b0 1
     have m0:=blk_frozen b0.out 0
     have m1:=blk_frozen b0.out 1
     go_wp2_with (first | ((with_reducible refine gate_callee (f:=76) rfl ?_);refine gL (some 44) Try.func76 #[.agg #[.slice A0 l0.length c0,.slice A1 l1.length c1],.slice A2 l2.length c2,.int .i64 (rd l3 b1),.int .i64 b1] ?_;(with_reducible refine (shares_net_holds.calls k2 _ _ l0 _ _ l1 _ _ l2 (rd l3 b1) b1 true _ ?side1 ?side2 ?side3 ?side4 ?side5 ?side6 p6.out).mono ?_);(case side1=>exact cB d8 HB);(case side2=>exact d9.out);(case side3=>exact cB e0 HB);(case side4=>exact e1.out);(case side5=>exact cB h2 HB);(case side6=>exact h3.out);rintro e q4 ⟨rfl,hb⟩;refine ⟨_,rfl,?_⟩;replace b0:=kB b0 hb;replace HB:=bB HB hb;(try clear hb)))
     go_roundg k2
     case measure=>have:=o9.out;have:=p1.out;omega
     case rel=>exact ⟨(wrap64 (b1 + 1)),(by first | rfl | (simp;done) | (simp [*];done)),H',⟨by have:=o9.out;have:=p1.out;omega⟩,⟨by (with_reducible repeat (first | refine blk_drewN ?_ _ | refine blk_drew ?_ | refine blk_alloc ?_ _));exact b0.out⟩,⟨bl HB⟩⟩
end Go.Proofs.Ytjohcjfmlhihbaa.G
set_option linter.unusedSectionVars false
namespace Go.Proofs.Ytjohcjfmlhihbaa.P
open Go Go.RowKit Go.Proofs.Ytjohcjfmlhihbaa.G
open Go.Proofs.YtjohcjfmlhihbaaW.PrintWords Go.Proofs.YtjohcjfmlhihbaaW.PrintMore
def hI (p:List Int) (u:List S45) (x:List Rat) (h:List Int) (i:Nat):Bool:=decide (0 ≤ rd h (i:Int)) && holdsB (netOf p u) (rt x) (rd h (i:Int)).toNat i
section
variable {p:List Int} {u:List S45} (hN:IsN p u) {x:List Rat} (hx:OkR p u x) {h:List Int} (hh:h.length = u.length)
include hN hx hh
theorem check_l0:∀ d i,i + d = u.length → Ev (fun k=>shares_Check.l0 k (encL x) h (h.length:Int) (i:Int) p u) (if allF (hI p u x h) d i = true then 0 else 10):=by
 intro d
 have h6:=hN.u6
 induction d with
 | zero =>
  intro i hi
  rw [allF,if_pos rfl]
  refine Ev.step (f:=fun _=>some 0) (fun k=>?_) (Ev.now _)
  rw [shares_Check.l0,if_neg (by omega)]
 | succ d ih =>
  intro i hi
  have hil:i < u.length:=by omega
  rw [allF]
  refine Ev.step (fun k=>by rw [shares_Check.l0,if_pos (by omega),if_pos (by omega),if_pos (by omega),wrap_succ (by omega)]) (Ev.bind (ev_holds hN hx (rd h (i:Int)) hil) ?_)
  by_cases hc:hI p u x h i = true
  ·rw [hc,Bool.true_and]
   exact Ev.congr (fun k=>if_pos hc) (ih (i + 1) (by omega))
  ·have hc':hI p u x h i = false:=by simpa using hc
   rw [hc',Bool.false_and,if_neg (by decide)]
   exact Ev.congr (fun k=>if_neg hc) (Ev.now _)
end
end Go.Proofs.Ytjohcjfmlhihbaa.P
namespace Go.Proofs.Ytjohcjfmlhihbaa.G
open Go.RowKit Go.Proofs.YtjohcjfmlhihbaaW.PrintWords Go.Proofs.YtjohcjfmlhihbaaW.PrintLast Go.Proofs.YtjohcjfmlhihbaaW.PrintMore
set_option maxHeartbeats 8000000
set_option maxRecDepth 100000
attribute [local go_sem] cond_true cond_false fld23_0 fld23_1 fld45_0 fld45_1 fld109_0 fld109_1 fld94_0 fld94_1 max2_int min2_int max_two min_two max_three min_three max_four min_four
mutual
def numnahlaw07_SharesUp.j0:Nat → List Int → List Int → List (S45) → List (S23) → List Int → Bool → Option (Bool)
 | 0,_,_,_,_,_,_=>none
 | k + 1,x1,x5,x6,x7,x8,x51=>if x51 = true then (some false) else (numnahlaw07_SharesUp.l0 k x1 x5 x6 x7 x8 ([]:List (S23)) 0)
def numnahlaw07_SharesUp.l0:Nat → List Int → List Int → List (S45) → List (S23) → List Int → List (S23) → Int → Option (Bool)
 | 0,_,_,_,_,_,_,_=>none
 | k + 1,x1,x5,x6,x7,x8,p2,C2=>if C2 < (x6.length:Int) then (if C2 < (x1.length:Int) then (if 0 ≤ C2 then ((numnahlaw07_mod.f (rd x1 C2) 801).bind fun p4=>((numnahref07_Reduced.f k p4 4).bind fun o0=>(if p2.length < 8796093022208 then (numnahlaw07_SharesUp.l0 k x1 x5 x6 x7 x8 (p2 ++ [(⟨o0.1,o0.2⟩:S23)]) (wrap64 (C2 + 1))) else (none)))) else (none)) else ((numnahref07_Reduced.f k 0 4).bind fun t0=>(if p2.length < 8796093022208 then (numnahlaw07_SharesUp.l0 k x1 x5 x6 x7 x8 (p2 ++ [(⟨t0.1,t0.2⟩:S23)]) (wrap64 (C2 + 1))) else (none)))) else ((shares_Check.f k x5 x6 x7 x8).bind fun m9=>(if m9 = 0 then ((shares_Better.f k x5 x6 p2).bind fun n0=>(if n0.2 = 0 then ((numnahref07_Same.f k p2 x7).bind fun i5=>(if ((n0.1 == (-1)) != i5) = true then (some false) else (numnahlaw07_SharesUp.l1 k x6 x7 p2 0))) else (if n0.2 = 10 then ((numnahref07_Possible.f k x5 x6 p2).bind fun p5=>(if p5 = true then (some false) else ((numnahlaw07_awake.f k).bind fun n9=>(some n9)))) else (some false)))) else (some false)))
def numnahlaw07_SharesUp.l1:Nat → List (S45) → List (S23) → List (S23) → Int → Option (Bool)
 | 0,_,_,_,_=>none
 | k + 1,x6,x7,p2,p3=>if p3 < (x6.length:Int) then (if 0 ≤ p3 then (if p3 < (x7.length:Int) then (if p3 < (p2.length:Int) then ((numnahref07_Less.f ((rd_T23 x7 p3).f0) ((rd_T23 x7 p3).f1) ((rd_T23 p2 p3).f0) ((rd_T23 p2 p3).f1)).bind fun s2=>(if s2 = true then (numnahlaw07_SharesUp.l2 k x6 x7 p2 p3 false 0) else (numnahlaw07_SharesUp.l1 k x6 x7 p2 (wrap64 (p3 + 1))))) else (none)) else (none)) else (none)) else ((numnahlaw07_awake.f k).bind fun s3=>(some s3))
def numnahlaw07_SharesUp.l2:Nat → List (S45) → List (S23) → List (S23) → Int → Bool → Int → Option (Bool)
 | 0,_,_,_,_,_,_=>none
 | k + 1,x6,x7,p2,p3,K5,s4=>if s4 < (x6.length:Int) then (if 0 ≤ s4 then (if s4 < (x7.length:Int) then (if 0 ≤ p3 then (if p3 < (x7.length:Int) then (if p3 < (x6.length:Int) then (if K5 = true then (numnahlaw07_SharesUp.l2 k x6 x7 p2 p3 true (wrap64 (s4 + 1))) else (if (wrap64 ((wrap64 (((rd_T23 x7 s4).f0) * ((rd_T23 x7 p3).f1))) * ((rd_T45 x6 p3).f0))) ≤ (wrap64 ((wrap64 (((rd_T23 x7 p3).f0) * ((rd_T23 x7 s4).f1))) * ((rd_T45 x6 s4).f0))) then (if s4 < (p2.length:Int) then ((numnahref07_Less.f ((rd_T23 p2 s4).f0) ((rd_T23 p2 s4).f1) ((rd_T23 x7 s4).f0) ((rd_T23 x7 s4).f1)).bind fun p8=>(numnahlaw07_SharesUp.l2 k x6 x7 p2 p3 p8 (wrap64 (s4 + 1)))) else (none)) else (numnahlaw07_SharesUp.l2 k x6 x7 p2 p3 false (wrap64 (s4 + 1))))) else (none)) else (none)) else (none)) else (none)) else (none)) else (if K5 = true then (numnahlaw07_SharesUp.l1 k x6 x7 p2 (wrap64 (p3 + 1))) else (some false))
end
def numnahlaw07_SharesUp.f (k:Nat) (l0:List Int) (l1:List Int):Option (Bool):=(numnahlaw07_plant.f k l0).bind fun d3=>((shares_Fair.f k d3.1 d3.2).bind fun d4=>(if d4.2.2 = 0 then (if (d4.1.length:Int) = (d3.2.length:Int) then (if (d4.2.1.length:Int) = (d3.2.length:Int) then ((numnahlaw07_fit.f k d4.1).bind fun o1=>(numnahlaw07_SharesUp.j0 k l1 d3.1 d3.2 d4.1 d4.2.1 (!o1))) else (numnahlaw07_SharesUp.j0 k l1 d3.1 d3.2 d4.1 d4.2.1 true)) else (numnahlaw07_SharesUp.j0 k l1 d3.1 d3.2 d4.1 d4.2.1 true)) else (numnahlaw07_SharesUp.j0 k l1 d3.1 d3.2 d4.1 d4.2.1 true)))
theorem numnahlaw07_SharesUp.mono_l:∀ k,(∀ y0 y1 y2 y3 y4 y5,LeO (numnahlaw07_SharesUp.j0 k y0 y1 y2 y3 y4 y5) (numnahlaw07_SharesUp.j0 (k + 1) y0 y1 y2 y3 y4 y5)) ∧ (∀ y0 y1 y2 y3 y4 y5 y6,LeO (numnahlaw07_SharesUp.l0 k y0 y1 y2 y3 y4 y5 y6) (numnahlaw07_SharesUp.l0 (k + 1) y0 y1 y2 y3 y4 y5 y6)) ∧ (∀ y0 y1 y2 y3,LeO (numnahlaw07_SharesUp.l1 k y0 y1 y2 y3) (numnahlaw07_SharesUp.l1 (k + 1) y0 y1 y2 y3)) ∧ (∀ y0 y1 y2 y3 y4 y5,LeO (numnahlaw07_SharesUp.l2 k y0 y1 y2 y3 y4 y5) (numnahlaw07_SharesUp.l2 (k + 1) y0 y1 y2 y3 y4 y5))
 | 0=>⟨fun _ _ _ _ _ _ r h=>by simp [numnahlaw07_SharesUp.j0] at h,fun _ _ _ _ _ _ _ r h=>by simp [numnahlaw07_SharesUp.l0] at h,fun _ _ _ _ r h=>by simp [numnahlaw07_SharesUp.l1] at h,fun _ _ _ _ _ _ r h=>by simp [numnahlaw07_SharesUp.l2] at h⟩
 | k + 1=>by
  obtain ⟨C3,C4,C5,C6⟩:=numnahlaw07_SharesUp.mono_l k
  refine ⟨?_,?_,?_,?_⟩
  ·intro y0 y1 y2 y3 y4 y5
   unfold numnahlaw07_SharesUp.j0
   repeat' first
   | (with_reducible first | exact C3 _ _ _ _ _ _ | exact C4 _ _ _ _ _ _ _ | exact C5 _ _ _ _ | exact C6 _ _ _ _ _ _ | exact numnahlaw07_awake.mono _ | exact numnahlaw07_fit.mono _ _ | exact numnahlaw07_plant.mono _ _ | exact numnahref07_Possible.mono _ _ _ _ | exact numnahref07_Reduced.mono _ _ _ | exact numnahref07_Same.mono _ _ _ | exact shares_Better.mono _ _ _ _ | exact shares_Check.mono _ _ _ _ _ | exact shares_Fair.mono _ _ _ | exact LeO.refl _ | exact LeO.none _ | refine LeO.ite ?_ ?_ | refine LeO.bind ?_ (fun _=>?_))
   | exact LeO.none _ | refine LeO.ite ?_ ?_ | refine LeO.bind ?_ (fun _=>?_)
  ·intro y0 y1 y2 y3 y4 y5 y6
   unfold numnahlaw07_SharesUp.l0
   repeat' first
   | (with_reducible first | exact C3 _ _ _ _ _ _ | exact C4 _ _ _ _ _ _ _ | exact C5 _ _ _ _ | exact C6 _ _ _ _ _ _ | exact numnahlaw07_awake.mono _ | exact numnahlaw07_fit.mono _ _ | exact numnahlaw07_plant.mono _ _ | exact numnahref07_Possible.mono _ _ _ _ | exact numnahref07_Reduced.mono _ _ _ | exact numnahref07_Same.mono _ _ _ | exact shares_Better.mono _ _ _ _ | exact shares_Check.mono _ _ _ _ _ | exact shares_Fair.mono _ _ _ | exact LeO.refl _ | exact LeO.none _ | refine LeO.ite ?_ ?_ | refine LeO.bind ?_ (fun _=>?_))
   | exact LeO.none _ | refine LeO.ite ?_ ?_ | refine LeO.bind ?_ (fun _=>?_)
  ·intro y0 y1 y2 y3
   unfold numnahlaw07_SharesUp.l1
   repeat' first
   | (with_reducible first | exact C3 _ _ _ _ _ _ | exact C4 _ _ _ _ _ _ _ | exact C5 _ _ _ _ | exact C6 _ _ _ _ _ _ | exact numnahlaw07_awake.mono _ | exact numnahlaw07_fit.mono _ _ | exact numnahlaw07_plant.mono _ _ | exact numnahref07_Possible.mono _ _ _ _ | exact numnahref07_Reduced.mono _ _ _ | exact numnahref07_Same.mono _ _ _ | exact shares_Better.mono _ _ _ _ | exact shares_Check.mono _ _ _ _ _ | exact shares_Fair.mono _ _ _ | exact LeO.refl _ | exact LeO.none _ | refine LeO.ite ?_ ?_ | refine LeO.bind ?_ (fun _=>?_))
   | exact LeO.none _ | refine LeO.ite ?_ ?_ | refine LeO.bind ?_ (fun _=>?_)
  intro y0 y1 y2 y3 y4 y5
  unfold numnahlaw07_SharesUp.l2
  repeat' first
  | (with_reducible first | exact C3 _ _ _ _ _ _ | exact C4 _ _ _ _ _ _ _ | exact C5 _ _ _ _ | exact C6 _ _ _ _ _ _ | exact numnahlaw07_awake.mono _ | exact numnahlaw07_fit.mono _ _ | exact numnahlaw07_plant.mono _ _ | exact numnahref07_Possible.mono _ _ _ _ | exact numnahref07_Reduced.mono _ _ _ | exact numnahref07_Same.mono _ _ _ | exact shares_Better.mono _ _ _ _ | exact shares_Check.mono _ _ _ _ _ | exact shares_Fair.mono _ _ _ | exact LeO.refl _ | exact LeO.none _ | refine LeO.ite ?_ ?_ | refine LeO.bind ?_ (fun _=>?_))
  | exact LeO.none _ | refine LeO.ite ?_ ?_ | refine LeO.bind ?_ (fun _=>?_)
theorem numnahlaw07_SharesUp.mono:∀ a0 a1 k,LeO (numnahlaw07_SharesUp.f k a0 a1) (numnahlaw07_SharesUp.f (k + 1) a0 a1):=by
 intro a0 a1 k
 obtain ⟨C3,C4,C5,C6⟩:=numnahlaw07_SharesUp.mono_l k
 unfold numnahlaw07_SharesUp.f
 repeat' first
   | (with_reducible first | exact C3 _ _ _ _ _ _ | exact C4 _ _ _ _ _ _ _ | exact C5 _ _ _ _ | exact C6 _ _ _ _ _ _ | exact numnahlaw07_awake.mono _ | exact numnahlaw07_fit.mono _ _ | exact numnahlaw07_plant.mono _ _ | exact numnahref07_Possible.mono _ _ _ _ | exact numnahref07_Reduced.mono _ _ _ | exact numnahref07_Same.mono _ _ _ | exact shares_Better.mono _ _ _ _ | exact shares_Check.mono _ _ _ _ _ | exact shares_Fair.mono _ _ _ | exact LeO.refl _ | exact LeO.none _ | refine LeO.ite ?_ ?_ | refine LeO.bind ?_ (fun _=>?_))
   | exact LeO.none _ | refine LeO.ite ?_ ?_ | refine LeO.bind ?_ (fun _=>?_)
def numnahlaw07_SharesUp.T23:Bool × List (List Nat × List Nat):=(true,[([],[]),([],[]),([0,1],[0,1]),([2],[2]),([],[]),([],[]),([4,5],[4,5]),([6],[6]),([3,7],[3,7]),([8],[8])])
def numnahlaw07_SharesUp.B23:List Nat:=[0,0,3,7,0,0,48,112,255,511]
theorem numnahlaw07_SharesUp.tab23:rtab .any (opsOf Try.f19 23) = numnahlaw07_SharesUp.T23:=by kernel_rfl
theorem numnahlaw07_SharesUp.bits23:waitsOk numnahlaw07_SharesUp.T23.2 numnahlaw07_SharesUp.B23 = true:=by kernel_rfl
def numnahlaw07_SharesUp.T28:Bool × List (List Nat × List Nat):=(true,[([],[]),([],[]),([0,1],[0,1]),([2],[2]),([3],[3]),([],[]),([],[]),([5,6],[5,6]),([7],[7]),([8],[8]),([4,9],[4,9]),([],[]),([],[]),([11,12],[11,12]),([13],[13]),([14],[14]),([10,15],[10,15]),([],[]),([],[]),([17,18],[17,18]),([19],[19]),([20],[20]),([],[]),([],[]),([22,23],[22,23]),([24],[24]),([25],[25]),([21,26],[21,26]),([],[]),([],[]),([28,29],[28,29]),([30],[30]),([31],[31]),([27,32],[27,32]),([16,33],[16,33]),([34,0,1,2,3,4,5,6,7,8,9,10,11,12,13,14,15,16,17,18,19,20,21,22,23,24,25,26,27,28,29,30,31,32,33,34],[34])])
def numnahlaw07_SharesUp.B28:List Nat:=[0,0,3,7,15,0,0,96,224,480,1023,0,0,6144,14336,30720,65535,0,0,393216,917504,1966080,0,0,12582912,29360128,62914560,134086656,0,0,805306368,1879048192,4026531840,8589803520,17179869183,34359738367]
theorem numnahlaw07_SharesUp.tab28:rtab .any (opsOf Try.f19 28) = numnahlaw07_SharesUp.T28:=by kernel_rfl
theorem numnahlaw07_SharesUp.bits28:waitsOk numnahlaw07_SharesUp.T28.2 numnahlaw07_SharesUp.B28 = true:=by kernel_rfl
def numnahlaw07_SharesUp.T29:Bool × List (List Nat × List Nat):=(true,[([],[]),([0],[0]),([1],[1]),([2,1,1],[1,2]),([3],[3]),([3],[3]),([4,5,3],[3,4,5]),([6,3],[3,6]),([3],[3]),([3],[3]),([8,9,3],[3,8,9]),([10,3],[3,10]),([7,11,3,3],[3,7,11]),([3,12,1],[1,3,12]),([1,13],[1,13]),([14,12,0,1,2,3,4,5,6,7,8,9,10,11,12,13,14],[0,14])])
def numnahlaw07_SharesUp.B29:List Nat:=[0,1,3,7,15,15,63,127,15,15,783,1807,4095,8191,16383,32767]
theorem numnahlaw07_SharesUp.tab29:rtab .any (opsOf Try.f19 29) = numnahlaw07_SharesUp.T29:=by kernel_rfl
theorem numnahlaw07_SharesUp.bits29:waitsOk numnahlaw07_SharesUp.T29.2 numnahlaw07_SharesUp.B29 = true:=by kernel_rfl
theorem numnahlaw07_SharesUp.calls (k:Nat) (A0:Option Addr) (c0:Nat) (l0:List Int) (A1:Option Addr) (c1:Nat) (l1:List Int) (r:Bool) (w:World) (H4:Kd.C (Kd.int .i64) w A0 l0.length l0) (H5:l0.length ≤ c0) (H6:Kd.C (Kd.int .i64) w A1 l1.length l1) (H7:l1.length ≤ c1) (h:numnahlaw07_SharesUp.f k l0 l1 = some r) (hrt_:r = true) :
  Calls Try.prog 19 #[.slice A0 l0.length c0,.slice A1 l1.length c1] w fun e w'=>e = .returned (.bool r) ∧ Below w.heap.size w w':=by
 have HRT:=Aside0.mk hrt_
 clear hrt_
 have N8:=Try.underlying23
 have N9:=A_ H4
 have O0:=A_ H5
 clear H4 H5
 have O1:=A_ H6
 have R5:=A_ H7
 clear H6 H7
 have HB:=A_ (Below.refl w.heap.size w)
 have H:((numnahlaw07_plant.f k l0).bind fun d3=>((shares_Fair.f k d3.1 d3.2).bind fun d4=>(if d4.2.2 = 0 then (if (d4.1.length:Int) = (d3.2.length:Int) then (if (d4.2.1.length:Int) = (d3.2.length:Int) then ((numnahlaw07_fit.f k d4.1).bind fun o1=>(numnahlaw07_SharesUp.j0 k l1 d3.1 d3.2 d4.1 d4.2.1 (!o1))) else (numnahlaw07_SharesUp.j0 k l1 d3.1 d3.2 d4.1 d4.2.1 true)) else (numnahlaw07_SharesUp.j0 k l1 d3.1 d3.2 d4.1 d4.2.1 true)) else (numnahlaw07_SharesUp.j0 k l1 d3.1 d3.2 d4.1 d4.2.1 true)))) = some r:=h
 clear h
 replace H:=Option.bind_eq_some_iff.mp H
 obtain ⟨⟨d8,b5⟩,A30,H⟩:=H
 dsimp only at H
 have A3:=A_ A30
 clear A30
 replace H:=Option.bind_eq_some_iff.mp H
 obtain ⟨⟨b2,e5,p6⟩,A40,H⟩:=H
 dsimp only at H
 have A4:=A_ A40
 clear A40
 have I3:=A_ H
 clear H
 go_enter Try.func19,Try.ntmps19
 go_upto_region 3 with (first | ((with_reducible refine gate_callee (f:=52) rfl ?_);refine gL (some 21) Try.func52 #[.slice A0 l0.length c0] ?_;(with_reducible refine (numnahlaw07_plant.calls k _ _ l0 d8 b5 _ ?side1 ?side2 A3.out).mono ?_);(case side1=>repeat (first | exact N9.out | (with_reducible refine Kd.C_alloc ?_ _) | (with_reducible refine Kd.C_drewN ?_ _) | (with_reducible refine Kd.C_drew ?_)));(case side2=>exact O0.out);rintro e w6 ⟨K6,K7,rfl,I4,D2,hb⟩;refine ⟨_,rfl,?_⟩;have i2:=A_ (Kd.R_lower I4 (below_size (bl HB)));have i3:=A_ (Kd.S_lower D2 (below_size (bl HB)));replace HB:=bB HB hb;(try clear hb);obtain ⟨t1,t2,O2⟩:=Kd.R_slice i2.out;subst O2;obtain ⟨z3,z4,O3⟩:=Kd.S_slice i3.out;subst O3) | ((with_reducible refine gate_callee (f:=32) rfl ?_);refine gL (some 27) Try.func32 #[.slice t1 d8.length t2,.slice z3 b5.length z4] ?_;(with_reducible refine (shares_Fair.calls k _ _ d8 _ _ b5 b2 e5 p6 _ ?side1 ?side2 ?side3 ?side4 A4.out).mono ?_);(case side1=>repeat (first | exact (Kd.R_reads' i2.out).2.2 | (with_reducible refine Kd.C_alloc ?_ _) | (with_reducible refine Kd.C_drewN ?_ _) | (with_reducible refine Kd.C_drew ?_)));(case side2=>exact (Kd.R_reads' i2.out).2.1);(case side3=>repeat (first | exact (Kd.S_reads' i3.out).2.2 | (with_reducible refine Kd.C_alloc ?_ _) | (with_reducible refine Kd.C_drewN ?_ _) | (with_reducible refine Kd.C_drew ?_)));(case side4=>exact (Kd.S_reads' i3.out).2.1);rintro e w9 ⟨p9,p7,rfl,I4,D2,hb⟩;refine ⟨_,rfl,?_⟩;have i4:=A_ (Kd.R_lower I4 (below_size (bl HB)));have l5:=A_ (Kd.R_lower (Kd.R_new' D2 (Kd.R_lt (rs i2))) (below_size (bl HB)));replace i2:=A_ (Kd.R_elder' (rs i2) (Kd.R_base D2) hb);replace i3:=A_ (Kd.S_elder' (by (with_reducible repeat (first | apply Kd.S_alloc | apply Kd.S_drewN | apply Kd.S_drew));exact i3.out) (Kd.R_base D2) hb);replace HB:=bB HB hb;(try clear hb)))
 (try simp only [Act.put,List.setIfInBounds_toArray,List.set_cons_zero,List.set_cons_succ])
 go_cut [51] (fun O4 wc=>∃ (kq:Nat) (s5:Bool),O4 = .bool s5 ∧ Aside0 (numnahlaw07_SharesUp.j0 kq l1 d8 b5 b2 e5 s5 = some r) ∧ Aside0 (kq ≤ k) ∧ Aside0 (Kd.R (Kd.int .i64) 3 wc w.heap.size (fun k_=>some k_ ≠ (p7:Value).ownBlock) (.slice t1 d8.length t2) d8) ∧ Aside0 (Kd.S k45 45 wc w.heap.size (fun k_=>some k_ ≠ ((.slice t1 d8.length t2):Value).ownBlock ∧ some k_ ≠ (p7:Value).ownBlock) (.slice z3 b5.length z4) b5) ∧ Aside0 (Kd.R k23 23 wc w.heap.size (fun _=>True) p9 b2) ∧ Aside0 (Kd.R (Kd.int .i64) 3 wc w.heap.size (fun k_=>some k_ ≠ ((.slice t1 d8.length t2):Value).ownBlock) p7 e5) ∧ Aside0 (Below w.heap.size w wc))
 case first =>
  have H:=I3.out
  clear I3
  by_cases c10:p6 = 0
  case neg =>
   rw [if_neg c10] at H
   have q0:(p6 == 0) = false:=beq_eq_false_iff_ne.mpr c10
   have D3:(p6 != 0) = true:=bne_iff_ne.mpr c10
   (first | rw [q0] | (simp only [i64_w,i32_w];rw [q0]) | skip)
   have H':=A_ H
   clear H
   go_wp2
   go_meet
   case rel=>exact ⟨_,(true),(by first | rfl | (simp;done) | (simp [*];done)),H',⟨by first | omega | exact Nat.le_refl _⟩,⟨by (with_reducible repeat (first | apply Kd.R_alloc | apply Kd.R_drewN | apply Kd.R_drew));exact Kd.R_mono i2.out (fun _ hk=>hk.2)⟩,⟨by (with_reducible repeat (first | apply Kd.S_alloc | apply Kd.S_drewN | apply Kd.S_drew));exact i3.out⟩,⟨by (with_reducible repeat (first | apply Kd.R_alloc | apply Kd.R_drewN | apply Kd.R_drew));exact i4.out⟩,⟨by (with_reducible repeat (first | apply Kd.R_alloc | apply Kd.R_drewN | apply Kd.R_drew));exact Kd.R_mono l5.out (fun _ hk=>hk.2)⟩,⟨bl HB⟩⟩
  rw [if_pos c10] at H
  have q0:(p6 == 0) = true:=beq_iff_eq.mpr c10
  have D3:(p6 != 0) = false:=bne_eq_false_iff_eq.mpr c10
  clear c10
  (first | rw [q0] | (simp only [i64_w,i32_w];rw [q0]) | skip)
  by_cases t3:(b2.length:Int) = (b5.length:Int)
  case neg =>
   rw [if_neg t3] at H
   have D4:((b2.length:Int) == (b5.length:Int)) = false:=beq_eq_false_iff_ne.mpr t3
   have D5:((b2.length:Int) != (b5.length:Int)) = true:=bne_iff_ne.mpr t3
   have D6:(b2.length == b5.length) = false:=by first | simpa using t3 | (simp at t3 ⊢;omega)
   have H':=A_ H
   clear H
   obtain ⟨O5,O6,I5⟩:=Kd.R_slice i4.out
   subst I5
   go_wp2
   go_meet
   case rel=>exact ⟨_,(true),(by first | rfl | (simp;done) | (simp [*];done)),H',⟨by first | omega | exact Nat.le_refl _⟩,⟨by (with_reducible repeat (first | apply Kd.R_alloc | apply Kd.R_drewN | apply Kd.R_drew));exact Kd.R_mono i2.out (fun _ hk=>hk.2)⟩,⟨by (with_reducible repeat (first | apply Kd.S_alloc | apply Kd.S_drewN | apply Kd.S_drew));exact i3.out⟩,⟨by (with_reducible repeat (first | apply Kd.R_alloc | apply Kd.R_drewN | apply Kd.R_drew));exact i4.out⟩,⟨by (with_reducible repeat (first | apply Kd.R_alloc | apply Kd.R_drewN | apply Kd.R_drew));exact Kd.R_mono l5.out (fun _ hk=>hk.2)⟩,⟨bl HB⟩⟩
  rw [if_pos t3] at H
  have D4:((b2.length:Int) == (b5.length:Int)) = true:=beq_iff_eq.mpr t3
  have D5:((b2.length:Int) != (b5.length:Int)) = false:=bne_eq_false_iff_eq.mpr t3
  have D6:(b2.length == b5.length) = true:=by first | simpa using t3 | (simp at t3 ⊢;omega)
  clear t3
  by_cases t4:(e5.length:Int) = (b5.length:Int)
  case neg =>
   rw [if_neg t4] at H
   have D7:((e5.length:Int) == (b5.length:Int)) = false:=beq_eq_false_iff_ne.mpr t4
   have D8:((e5.length:Int) != (b5.length:Int)) = true:=bne_iff_ne.mpr t4
   have D9:(e5.length == b5.length) = false:=by first | simpa using t4 | (simp at t4 ⊢;omega)
   have H':=A_ H
   clear H
   obtain ⟨O7,O8,I6⟩:=Kd.R_slice i4.out
   subst I6
   obtain ⟨O9,P0,I7⟩:=Kd.R_slice l5.out
   subst I7
   go_wp2
   go_meet
   case rel=>exact ⟨_,(true),(by first | rfl | (simp;done) | (simp [*];done)),H',⟨by first | omega | exact Nat.le_refl _⟩,⟨by (with_reducible repeat (first | apply Kd.R_alloc | apply Kd.R_drewN | apply Kd.R_drew));exact Kd.R_mono i2.out (fun _ hk=>hk.2)⟩,⟨by (with_reducible repeat (first | apply Kd.S_alloc | apply Kd.S_drewN | apply Kd.S_drew));exact i3.out⟩,⟨by (with_reducible repeat (first | apply Kd.R_alloc | apply Kd.R_drewN | apply Kd.R_drew));exact i4.out⟩,⟨by (with_reducible repeat (first | apply Kd.R_alloc | apply Kd.R_drewN | apply Kd.R_drew));exact Kd.R_mono l5.out (fun _ hk=>hk.2)⟩,⟨bl HB⟩⟩
  rw [if_pos t4] at H
  have D7:((e5.length:Int) == (b5.length:Int)) = true:=beq_iff_eq.mpr t4
  have D8:((e5.length:Int) != (b5.length:Int)) = false:=bne_eq_false_iff_eq.mpr t4
  have D9:(e5.length == b5.length) = true:=by first | simpa using t4 | (simp at t4 ⊢;omega)
  clear t4
  replace H:=Option.bind_eq_some_iff.mp H
  obtain ⟨o1,E0,H⟩:=H
  replace H:(numnahlaw07_SharesUp.j0 k l1 d8 b5 b2 e5 (!o1)) = some r:=H
  have P1:=A_ E0
  clear E0
  have H':=A_ H
  clear H
  obtain ⟨P2,P3,I8⟩:=Kd.R_slice i4.out
  subst I8
  obtain ⟨P4,P5,I9⟩:=Kd.R_slice l5.out
  subst I9
  go_wp2_with (first | (go_at_call 27;(with_reducible refine (numnahlaw07_fit.calls k _ _ b2 o1 _ ?side1 ?side2 P1.out).mono ?_);(case side1=>repeat (first | exact (Kd.R_reads' i4.out).2.2 | (with_reducible refine Kd.C_alloc ?_ _) | (with_reducible refine Kd.C_drewN ?_ _) | (with_reducible refine Kd.C_drew ?_)));(case side2=>exact (Kd.R_reads' i4.out).2.1);rintro e R6 ⟨rfl,hb⟩;replace i2:=rB i2 hb;replace i3:=A_ (Kd.S_below (by (with_reducible repeat (first | apply Kd.S_alloc | apply Kd.S_drewN | apply Kd.S_drew));exact i3.out) hb);replace i4:=rB i4 hb;replace l5:=rB l5 hb;replace HB:=bB HB hb;(try clear hb)))
  go_meet
  case rel=>exact ⟨_,(!o1),(by first | rfl | (simp;done) | (simp [*];done)),H',⟨by first | omega | exact Nat.le_refl _⟩,⟨by (with_reducible repeat (first | apply Kd.R_alloc | apply Kd.R_drewN | apply Kd.R_drew));exact Kd.R_mono i2.out (fun _ hk=>hk.2)⟩,⟨by (with_reducible repeat (first | apply Kd.S_alloc | apply Kd.S_drewN | apply Kd.S_drew));exact i3.out⟩,⟨by (with_reducible repeat (first | apply Kd.R_alloc | apply Kd.R_drewN | apply Kd.R_drew));exact i4.out⟩,⟨by (with_reducible repeat (first | apply Kd.R_alloc | apply Kd.R_drewN | apply Kd.R_drew));exact Kd.R_mono l5.out (fun _ hk=>hk.2)⟩,⟨bl HB⟩⟩
 case rest =>
  clear I3
  obtain ⟨kq,s5,rfl,HA,s6,e3,b6,b7,e4,HB⟩:=hcut
  cases kq with
  | zero=>exact absurd HA.out (by simp [numnahlaw07_SharesUp.j0])
  | succ K8 =>
   have H:=HA.out
   clear HA
   simp only [numnahlaw07_SharesUp.j0] at H
   by_cases H8:s5 = true
   ·subst H8
    rw [if_pos rfl] at H
    exact absurd ((Option.some.inj H).trans HRT.out) (by decide)
   replace H8:=Bool.eq_false_iff.mpr H8
   subst H8
   rw [if_neg (show ¬ (false = true) by decide)] at H
   have H':=A_ H
   clear H
   go_wp2
   go_loopg [10,11] K8 (fun kq K9 P6 w'=>∃ (b8:List (S23)) (j8:Int),P6 = .int .i64 j8 ∧ Aside0 (numnahlaw07_SharesUp.l0 kq l1 d8 b5 b2 e5 b8 j8 = some r) ∧ Aside0 (kq ≤ K8) ∧ Aside0 (Kd.R (Kd.int .i64) 3 w' w.heap.size (fun k_=>some k_ ≠ (p7:Value).ownBlock) (.slice t1 d8.length t2) d8) ∧ Aside0 (Kd.S k45 45 w' w.heap.size (fun k_=>some k_ ≠ ((.slice t1 d8.length t2):Value).ownBlock ∧ some k_ ≠ (p7:Value).ownBlock) (.slice z3 b5.length z4) b5) ∧ Aside0 (Kd.R k23 23 w' w.heap.size (fun k_=>some k_ ≠ (K9:Value).ownBlock) p9 b2) ∧ Aside0 (Kd.R (Kd.int .i64) 3 w' w.heap.size (fun k_=>some k_ ≠ ((.slice t1 d8.length t2):Value).ownBlock) p7 e5) ∧ Aside0 (Kd.R k23 23 w' w.heap.size (fun k_=>some k_ ≠ (p9:Value).ownBlock) K9 b8) ∧ Aside0 (Below w.heap.size w w'))
   case atStart=>exact ⟨(([]:List (S23))),(0),(by first | rfl | (simp;done) | (simp [*];done)),H',⟨Nat.le_refl _⟩,⟨by (with_reducible repeat (first | apply Kd.R_alloc | apply Kd.R_drewN | apply Kd.R_drew));exact e3.out⟩,⟨by (with_reducible repeat (first | apply Kd.S_alloc | apply Kd.S_drewN | apply Kd.S_drew));exact b6.out⟩,⟨by (with_reducible repeat (first | apply Kd.R_alloc | apply Kd.R_drewN | apply Kd.R_drew));exact Kd.R_mono b7.out (fun _ hk=>(by simp [Value.ownBlock]))⟩,⟨by (with_reducible repeat (first | apply Kd.R_alloc | apply Kd.R_drewN | apply Kd.R_drew));exact e4.out⟩,⟨by first | exact Kd.R_nil _ _ _ _ _ | exact Kd.N_nil _ _ _ _ _ | exact Kd.V_nil _ _ _ _ _ | exact Kd.Q_nil _ _ _ _ _ | exact Kd.S_nil _ _ _ _ _⟩,⟨bl HB⟩⟩
   case round =>
    clear H'
    obtain ⟨b8,j8,rfl,HA,s7,e3,b6,b7,e4,b4,HB⟩:=hrel
    cases gk with
    | zero=>exact absurd HA.out (by simp [numnahlaw07_SharesUp.l0])
    | succ k2 =>
     have H:=HA.out
     clear HA
     simp only [numnahlaw07_SharesUp.l0] at H
     by_cases C7:j8 < (b5.length:Int)
     ·rw [if_pos C7] at H
      have E1:=decide_eq_true C7
      clear C7
      by_cases C8:j8 < (l1.length:Int)
      case neg =>
       rw [if_neg C8] at H
       have E2:=decide_eq_false C8
       clear C8
       replace H:=Option.bind_eq_some_iff.mp H
       obtain ⟨⟨q1,q2⟩,A290,H⟩:=H
       dsimp only at H
       have P7:=A_ A290
       clear A290
       replace H:=gd H
       obtain ⟨L0,H⟩:=H
       have E3:=A_ L0
       clear L0
       obtain ⟨E4,s0⟩:∃ y_:List (S23),y_ = (b8 ++ [(⟨q1,q2⟩:S23)]):=⟨_,rfl⟩
       rw [← s0] at H
       have A2:=A_ s0
       clear s0
       have H':=A_ H
       clear H
       go_wp2_with (first | ((with_reducible refine gate_callee (f:=34) rfl ?_);refine gL (some 69) Try.func34 #[.int .i64 0,.int .i64 4] ?_;(with_reducible refine (numnahref07_Reduced.calls k2 0 4 q1 q2 _ P7.out).mono ?_);rintro e R7 ⟨rfl,hb⟩;refine ⟨_,rfl,?_⟩;replace e3:=rB e3 hb;replace b6:=A_ (Kd.S_below (by (with_reducible repeat (first | apply Kd.S_alloc | apply Kd.S_drewN | apply Kd.S_drew));exact b6.out) hb);replace b7:=rB b7 hb;replace e4:=rB e4 hb;replace b4:=rB b4 hb;replace HB:=bB HB hb;(try clear hb)) | ((with_reducible refine gate_builtin (b:=.append) (xs:=#[.tmp 67,.tmp 70]) rfl ?_);(try (refine gate_guard (by rfl) ?_;dsimp only));at_builtin;refine Kd.R_append k23 (w0:=w) w.heap.size rfl (.tmp 67) (.tmp 70) 35 23 (.agg #[(.int .i64 0),(.int .i64 0)]) 16 rfl Try.underlying35 info23 rfl (by decide) (by omega) u10 b8 (⟨q1,q2⟩:S23) [.int .i64 q1,.int .i64 q2] (fun k_=>some k_ ≠ (p9:Value).ownBlock) (fun _=>False) rfl rfl ?aP (fun _ hk=>hk.elim) ?aF ?aO ?aB ?aS ?aL ?_;(case aP=>exact k23_mkM _ _ _ (⟨q1,q2⟩:S23));(case aB=>exact (bl HB));(case aF=>exact (fun k_ hk=>Kd.fresh' (Kd.R_lt (rs b7)) k_ hk));(case aO=>exact (rs b4));(case aS=>exact (below_size (bl HB)));(case aL=>have:=E3.out;omega);intro L1 R8 ho hb hg hat;rw [← A2.out] at ho;have A5:=A_ ho;replace e3:=A_ (Kd.R_over' (rs e3) (Kd.R_typed (rs b4)) (by decide) hg);replace b6:=A_ (Kd.S_over' (by (with_reducible repeat (first | apply Kd.S_alloc | apply Kd.S_drewN | apply Kd.S_drew));exact b6.out) (Kd.R_typed (rs b4)) (by decide) hg);replace b7:=A_ (Kd.R_after (ok:=(fun _=>True)) (by (with_reducible repeat (first | apply Kd.R_alloc | apply Kd.R_drewN | apply Kd.R_drew));exact Kd.R_mono b7.out (fun _ hk=>⟨trivial,hk⟩)) hg hat);replace e4:=A_ (Kd.R_over' (rs e4) (Kd.R_typed (rs b4)) (by decide) hg);replace HB:=A_ hb;clear b4;clear ho hb hg hat))
       go_roundg k2
       case measure=>have:=s6.out;have:=s7.out;omega
       case rel=>exact ⟨(E4),(wrap64 (j8 + 1)),(by first | rfl | (simp;done) | (simp [*];done)),H',⟨by have:=s6.out;have:=s7.out;omega⟩,⟨by (with_reducible repeat (first | apply Kd.R_alloc | apply Kd.R_drewN | apply Kd.R_drew));exact e3.out⟩,⟨by (with_reducible repeat (first | apply Kd.S_alloc | apply Kd.S_drewN | apply Kd.S_drew));exact b6.out⟩,⟨by (with_reducible repeat (first | apply Kd.R_alloc | apply Kd.R_drewN | apply Kd.R_drew));exact Kd.R_mono b7.out (fun _ hk=>hk.2)⟩,⟨by (with_reducible repeat (first | apply Kd.R_alloc | apply Kd.R_drewN | apply Kd.R_drew));exact e4.out⟩,⟨by (with_reducible repeat (first | apply Kd.R_alloc | apply Kd.R_drewN | apply Kd.R_drew));exact A5.out⟩,⟨bl HB⟩⟩
      rw [if_pos C8] at H
      have E2:=decide_eq_true C8
      clear C8
      replace H:=gd H
      obtain ⟨L2,H⟩:=H
      have L3:=decide_eq_true L2
      clear L2
      replace H:=Option.bind_eq_some_iff.mp H
      obtain ⟨p4,E5,H⟩:=H
      replace H:((numnahref07_Reduced.f k2 p4 4).bind fun o0=>(if b8.length < 8796093022208 then (numnahlaw07_SharesUp.l0 k2 l1 d8 b5 b2 e5 (b8 ++ [(⟨o0.1,o0.2⟩:S23)]) (wrap64 (j8 + 1))) else (none))) = some r:=H
      have P8:=A_ E5
      clear E5
      replace H:=Option.bind_eq_some_iff.mp H
      obtain ⟨⟨q3,q4⟩,A250,H⟩:=H
      dsimp only at H
      have P9:=A_ A250
      clear A250
      replace H:=gd H
      obtain ⟨L4,H⟩:=H
      have E6:=A_ L4
      clear L4
      obtain ⟨E7,s1⟩:∃ y_:List (S23),y_ = (b8 ++ [(⟨q3,q4⟩:S23)]):=⟨_,rfl⟩
      rw [← s1] at H
      have A6:=A_ s1
      clear s1
      have H':=A_ H
      clear H
      have t5:0 ≤ (j8:Int):=of_decide_eq_true (by first | (with_reducible assumption) | assumption)
      have t6:j8 < (l1.length:Int):=of_decide_eq_true (by first | (with_reducible assumption) | assumption)
      obtain ⟨J0,E8,o2⟩:=Kd.at_int O1.out j8 t5 t6
      cases E8
      replace o2:=(HB.out.cell (World.block_lt_of_cell? w _ o2)).trans o2
      replace t5:=eq_true t5
      replace t6:=eq_true t6
      go_wp2_with (first | ((with_reducible refine gate_callee (f:=29) rfl ?_);refine gL (some 66) Try.func29 #[.int .i64 (rd l1 j8),.int .i64 801] ?_;(with_reducible refine (numnahlaw07_mod.calls (rd l1 j8) 801 p4 _ P8.out).mono ?_);rintro e w' ⟨rfl,⟨nd,rfl⟩⟩;refine ⟨_,rfl,?_⟩) | ((with_reducible refine gate_callee (f:=34) rfl ?_);refine gL (some 69) Try.func34 #[.int .i64 p4,.int .i64 4] ?_;(with_reducible refine (numnahref07_Reduced.calls k2 p4 4 q3 q4 _ P9.out).mono ?_);rintro e R9 ⟨rfl,hb⟩;refine ⟨_,rfl,?_⟩;replace e3:=rB e3 hb;replace b6:=A_ (Kd.S_below (by (with_reducible repeat (first | apply Kd.S_alloc | apply Kd.S_drewN | apply Kd.S_drew));exact b6.out) hb);replace b7:=rB b7 hb;replace e4:=rB e4 hb;replace b4:=rB b4 hb;replace HB:=bB HB hb;(try clear hb)) | ((with_reducible refine gate_builtin (b:=.append) (xs:=#[.tmp 67,.tmp 70]) rfl ?_);(try (refine gate_guard (by rfl) ?_;dsimp only));at_builtin;refine Kd.R_append k23 (w0:=w) w.heap.size rfl (.tmp 67) (.tmp 70) 35 23 (.agg #[(.int .i64 0),(.int .i64 0)]) 16 rfl Try.underlying35 info23 rfl (by decide) (by omega) u10 b8 (⟨q3,q4⟩:S23) [.int .i64 q3,.int .i64 q4] (fun k_=>some k_ ≠ (p9:Value).ownBlock) (fun _=>False) rfl rfl ?aP (fun _ hk=>hk.elim) ?aF ?aO ?aB ?aS ?aL ?_;(case aP=>exact k23_mkM _ _ _ (⟨q3,q4⟩:S23));(case aB=>exact (bl HB));(case aF=>exact (fun k_ hk=>Kd.fresh' (Kd.R_lt (rs b7)) k_ hk));(case aO=>exact (rs b4));(case aS=>exact (below_size (bl HB)));(case aL=>have:=E6.out;omega);intro L5 S0 ho hb hg hat;rw [← A6.out] at ho;have A7:=A_ ho;replace e3:=A_ (Kd.R_over' (rs e3) (Kd.R_typed (rs b4)) (by decide) hg);replace b6:=A_ (Kd.S_over' (by (with_reducible repeat (first | apply Kd.S_alloc | apply Kd.S_drewN | apply Kd.S_drew));exact b6.out) (Kd.R_typed (rs b4)) (by decide) hg);replace b7:=A_ (Kd.R_after (ok:=(fun _=>True)) (by (with_reducible repeat (first | apply Kd.R_alloc | apply Kd.R_drewN | apply Kd.R_drew));exact Kd.R_mono b7.out (fun _ hk=>⟨trivial,hk⟩)) hg hat);replace e4:=A_ (Kd.R_over' (rs e4) (Kd.R_typed (rs b4)) (by decide) hg);replace HB:=A_ hb;clear b4;clear ho hb hg hat))
      go_roundg k2
      case measure=>have:=s6.out;have:=s7.out;omega
      case rel=>exact ⟨(E7),(wrap64 (j8 + 1)),(by first | rfl | (simp;done) | (simp [*];done)),H',⟨by have:=s6.out;have:=s7.out;omega⟩,⟨by (with_reducible repeat (first | apply Kd.R_alloc | apply Kd.R_drewN | apply Kd.R_drew));exact e3.out⟩,⟨by (with_reducible repeat (first | apply Kd.S_alloc | apply Kd.S_drewN | apply Kd.S_drew));exact b6.out⟩,⟨by (with_reducible repeat (first | apply Kd.R_alloc | apply Kd.R_drewN | apply Kd.R_drew));exact Kd.R_mono b7.out (fun _ hk=>hk.2)⟩,⟨by (with_reducible repeat (first | apply Kd.R_alloc | apply Kd.R_drewN | apply Kd.R_drew));exact e4.out⟩,⟨by (with_reducible repeat (first | apply Kd.R_alloc | apply Kd.R_drewN | apply Kd.R_drew));exact A7.out⟩,⟨bl HB⟩⟩
     rw [if_neg C7] at H
     have E1:=decide_eq_false C7
     clear C7
     replace H:=Option.bind_eq_some_iff.mp H
     obtain ⟨m9,E9,H⟩:=H
     replace H:(if m9 = 0 then ((shares_Better.f k2 d8 b5 b8).bind fun n0=>(if n0.2 = 0 then ((numnahref07_Same.f k2 b8 b2).bind fun i5=>(if ((n0.1 == (-1)) != i5) = true then (some false) else (numnahlaw07_SharesUp.l1 k2 b5 b2 b8 0))) else (if n0.2 = 10 then ((numnahref07_Possible.f k2 d8 b5 b8).bind fun p5=>(if p5 = true then (some false) else ((numnahlaw07_awake.f k2).bind fun n9=>(some n9)))) else (some false)))) else (some false)) = some r:=H
     have L6:=A_ E9
     clear E9
     by_cases A8:m9 = 0
     case neg =>
      rw [if_neg A8] at H
      have F0:(m9 == 0) = false:=beq_eq_false_iff_ne.mpr A8
      have F1:(m9 != 0) = true:=bne_iff_ne.mpr A8
      exact absurd ((Option.some.inj H).trans HRT.out) (by decide)
     rw [if_pos A8] at H
     have F0:(m9 == 0) = true:=beq_iff_eq.mpr A8
     have F1:(m9 != 0) = false:=bne_eq_false_iff_eq.mpr A8
     clear A8
     replace H:=Option.bind_eq_some_iff.mp H
     obtain ⟨⟨l6,j9⟩,A350,H⟩:=H
     dsimp only at H
     have L7:=A_ A350
     clear A350
     by_cases A9:j9 = 0
     case neg =>
      rw [if_neg A9] at H
      have F2:(j9 == 0) = false:=beq_eq_false_iff_ne.mpr A9
      have F3:(j9 != 0) = true:=bne_iff_ne.mpr A9
      by_cases B0:j9 = 10
      case neg =>
       rw [if_neg B0] at H
       have F4:(j9 == 10) = false:=beq_eq_false_iff_ne.mpr B0
       have F5:(j9 != 10) = true:=bne_iff_ne.mpr B0
       exact absurd ((Option.some.inj H).trans HRT.out) (by decide)
      rw [if_pos B0] at H
      have F4:(j9 == 10) = true:=beq_iff_eq.mpr B0
      have F5:(j9 != 10) = false:=bne_eq_false_iff_eq.mpr B0
      clear B0
      replace H:=Option.bind_eq_some_iff.mp H
      obtain ⟨p5,F6,H⟩:=H
      replace H:(if p5 = true then (some false) else ((numnahlaw07_awake.f k2).bind fun n9=>(some n9))) = some r:=H
      have Q0:=A_ F6
      clear F6
      by_cases H9:p5 = true
      ·subst H9
       rw [if_pos rfl] at H
       exact absurd ((Option.some.inj H).trans HRT.out) (by decide)
      replace H9:=Bool.eq_false_iff.mpr H9
      subst H9
      rw [if_neg (show ¬ (false = true) by decide)] at H
      replace H:=Option.bind_eq_some_iff.mp H
      obtain ⟨n9,F7,H⟩:=H
      replace H:(some n9) = some r:=H
      have Q1:=A_ F7
      clear F7
      obtain rfl:=Option.some.inj H
      obtain ⟨J1,J2,J3⟩:=Kd.R_slice b7.out
      subst J3
      obtain ⟨J4,J5,J6⟩:=Kd.R_slice e4.out
      subst J6
      go_wp2_with (first | ((with_reducible refine gate_callee (f:=40) rfl ?_);refine gL (some 76) Try.func40 #[.slice t1 d8.length t2,.slice z3 b5.length z4,.slice J1 b2.length J2,.slice J4 e5.length J5] ?_;(with_reducible refine (shares_Check.calls k2 _ _ d8 _ _ b5 _ _ b2 _ _ e5 m9 _ ?side1 ?side2 ?side3 ?side4 ?side5 ?side6 ?side7 ?side8 L6.out).mono ?_);(case side1=>repeat (first | exact (Kd.R_reads' e3.out).2.2 | (with_reducible refine Kd.C_alloc ?_ _) | (with_reducible refine Kd.C_drewN ?_ _) | (with_reducible refine Kd.C_drew ?_)));(case side2=>exact (Kd.R_reads' e3.out).2.1);(case side3=>repeat (first | exact (Kd.S_reads' b6.out).2.2 | (with_reducible refine Kd.C_alloc ?_ _) | (with_reducible refine Kd.C_drewN ?_ _) | (with_reducible refine Kd.C_drew ?_)));(case side4=>exact (Kd.S_reads' b6.out).2.1);(case side5=>repeat (first | exact (Kd.R_reads' b7.out).2.2 | (with_reducible refine Kd.C_alloc ?_ _) | (with_reducible refine Kd.C_drewN ?_ _) | (with_reducible refine Kd.C_drew ?_)));(case side6=>exact (Kd.R_reads' b7.out).2.1);(case side7=>repeat (first | exact (Kd.R_reads' e4.out).2.2 | (with_reducible refine Kd.C_alloc ?_ _) | (with_reducible refine Kd.C_drewN ?_ _) | (with_reducible refine Kd.C_drew ?_)));(case side8=>exact (Kd.R_reads' e4.out).2.1);rintro e S1 ⟨rfl,hb⟩;refine ⟨_,rfl,?_⟩;replace e3:=rB e3 hb;replace b6:=A_ (Kd.S_below (by (with_reducible repeat (first | apply Kd.S_alloc | apply Kd.S_drewN | apply Kd.S_drew));exact b6.out) hb);replace b7:=rB b7 hb;replace e4:=rB e4 hb;replace b4:=rB b4 hb;replace HB:=bB HB hb;(try clear hb);obtain ⟨J7,J8,J9⟩:=Kd.R_slice b4.out;subst J9) | ((with_reducible refine gate_callee (f:=58) rfl ?_);refine gL (some 82) Try.func58 #[.slice t1 d8.length t2,.slice z3 b5.length z4,.slice J7 b8.length J8] ?_;(with_reducible refine (shares_Better.calls k2 _ _ d8 _ _ b5 _ _ b8 l6 j9 _ ?side1 ?side2 ?side3 ?side4 ?side5 ?side6 L7.out).mono ?_);(case side1=>repeat (first | exact (Kd.R_reads' e3.out).2.2 | (with_reducible refine Kd.C_alloc ?_ _) | (with_reducible refine Kd.C_drewN ?_ _) | (with_reducible refine Kd.C_drew ?_)));(case side2=>exact (Kd.R_reads' e3.out).2.1);(case side3=>repeat (first | exact (Kd.S_reads' b6.out).2.2 | (with_reducible refine Kd.C_alloc ?_ _) | (with_reducible refine Kd.C_drewN ?_ _) | (with_reducible refine Kd.C_drew ?_)));(case side4=>exact (Kd.S_reads' b6.out).2.1);(case side5=>repeat (first | exact (Kd.R_reads' b4.out).2.2 | (with_reducible refine Kd.C_alloc ?_ _) | (with_reducible refine Kd.C_drewN ?_ _) | (with_reducible refine Kd.C_drew ?_)));(case side6=>exact (Kd.R_reads' b4.out).2.1);rintro e S2 ⟨rfl,hb⟩;refine ⟨_,rfl,?_⟩;replace e3:=rB e3 hb;replace b6:=A_ (Kd.S_below (by (with_reducible repeat (first | apply Kd.S_alloc | apply Kd.S_drewN | apply Kd.S_drew));exact b6.out) hb);replace b7:=rB b7 hb;replace e4:=rB e4 hb;replace b4:=rB b4 hb;replace HB:=bB HB hb;(try clear hb)) | (go_at_call 61;(with_reducible refine (numnahref07_Possible.calls k2 _ _ d8 _ _ b5 _ _ b8 false _ ?side1 ?side2 ?side3 ?side4 ?side5 ?side6 Q0.out).mono ?_);(case side1=>repeat (first | exact (Kd.R_reads' e3.out).2.2 | (with_reducible refine Kd.C_alloc ?_ _) | (with_reducible refine Kd.C_drewN ?_ _) | (with_reducible refine Kd.C_drew ?_)));(case side2=>exact (Kd.R_reads' e3.out).2.1);(case side3=>repeat (first | exact (Kd.S_reads' b6.out).2.2 | (with_reducible refine Kd.C_alloc ?_ _) | (with_reducible refine Kd.C_drewN ?_ _) | (with_reducible refine Kd.C_drew ?_)));(case side4=>exact (Kd.S_reads' b6.out).2.1);(case side5=>repeat (first | exact (Kd.R_reads' b4.out).2.2 | (with_reducible refine Kd.C_alloc ?_ _) | (with_reducible refine Kd.C_drewN ?_ _) | (with_reducible refine Kd.C_drew ?_)));(case side6=>exact (Kd.R_reads' b4.out).2.1);rintro e S3 ⟨rfl,hb⟩;replace e3:=rB e3 hb;replace b6:=A_ (Kd.S_below (by (with_reducible repeat (first | apply Kd.S_alloc | apply Kd.S_drewN | apply Kd.S_drew));exact b6.out) hb);replace b7:=rB b7 hb;replace e4:=rB e4 hb;replace b4:=rB b4 hb;replace HB:=bB HB hb;(try clear hb)) | (go_at_call 22;(with_reducible refine (numnahlaw07_awake.calls k2  n9 _ Q1.out).mono ?_);rintro e S4 ⟨rfl,hb⟩;replace e3:=rB e3 hb;replace b6:=A_ (Kd.S_below (by (with_reducible repeat (first | apply Kd.S_alloc | apply Kd.S_drewN | apply Kd.S_drew));exact b6.out) hb);replace b7:=rB b7 hb;replace e4:=rB e4 hb;replace b4:=rB b4 hb;replace HB:=bB HB hb;(try clear hb)))
      go_ret
      exact ⟨by first | rfl | (simp [errW_none,errW_some] <;> rfl) | (simp [*,errW_none,errW_some] <;> rfl),bl HB⟩
     rw [if_pos A9] at H
     have F2:(j9 == 0) = true:=beq_iff_eq.mpr A9
     have F3:(j9 != 0) = false:=bne_eq_false_iff_eq.mpr A9
     clear A9
     replace H:=Option.bind_eq_some_iff.mp H
     obtain ⟨i5,F8,H⟩:=H
     replace H:(if ((l6 == (-1)) != i5) = true then (some false) else (numnahlaw07_SharesUp.l1 k2 b5 b2 b8 0)) = some r:=H
     have Q2:=A_ F8
     clear F8
     by_cases t7:((l6 == (-1)) != i5) = true
     ·rw [if_pos t7] at H
      have F9:((l6 == (-1)) != i5) = true:=t7
      (try (have G0:decide ((l6 == (-1)) = i5) = false:=by simpa using t7))
      (try (have G1:((l6 == (-1)) == i5) = false:=by simpa using t7))
      (try (have L8:¬ ((l6 == (-1)) = i5):=by simpa using t7))
      clear t7
      exact absurd ((Option.some.inj H).trans HRT.out) (by decide)
     rw [if_neg t7] at H
     have F9:((l6 == (-1)) != i5) = false:=by simpa using t7
     (try (have G0:decide ((l6 == (-1)) = i5) = true:=by simpa using t7))
     (try (have G1:((l6 == (-1)) == i5) = true:=by simpa using t7))
     clear t7
     have H':=A_ H
     clear H
     obtain ⟨z5,s8,K0⟩:=Kd.R_slice b7.out
     subst K0
     obtain ⟨K1,K2,K3⟩:=Kd.R_slice e4.out
     subst K3
     go_wp2_with (first | ((with_reducible refine gate_callee (f:=40) rfl ?_);refine gL (some 76) Try.func40 #[.slice t1 d8.length t2,.slice z3 b5.length z4,.slice z5 b2.length s8,.slice K1 e5.length K2] ?_;(with_reducible refine (shares_Check.calls k2 _ _ d8 _ _ b5 _ _ b2 _ _ e5 m9 _ ?side1 ?side2 ?side3 ?side4 ?side5 ?side6 ?side7 ?side8 L6.out).mono ?_);(case side1=>repeat (first | exact (Kd.R_reads' e3.out).2.2 | (with_reducible refine Kd.C_alloc ?_ _) | (with_reducible refine Kd.C_drewN ?_ _) | (with_reducible refine Kd.C_drew ?_)));(case side2=>exact (Kd.R_reads' e3.out).2.1);(case side3=>repeat (first | exact (Kd.S_reads' b6.out).2.2 | (with_reducible refine Kd.C_alloc ?_ _) | (with_reducible refine Kd.C_drewN ?_ _) | (with_reducible refine Kd.C_drew ?_)));(case side4=>exact (Kd.S_reads' b6.out).2.1);(case side5=>repeat (first | exact (Kd.R_reads' b7.out).2.2 | (with_reducible refine Kd.C_alloc ?_ _) | (with_reducible refine Kd.C_drewN ?_ _) | (with_reducible refine Kd.C_drew ?_)));(case side6=>exact (Kd.R_reads' b7.out).2.1);(case side7=>repeat (first | exact (Kd.R_reads' e4.out).2.2 | (with_reducible refine Kd.C_alloc ?_ _) | (with_reducible refine Kd.C_drewN ?_ _) | (with_reducible refine Kd.C_drew ?_)));(case side8=>exact (Kd.R_reads' e4.out).2.1);rintro e S5 ⟨rfl,hb⟩;refine ⟨_,rfl,?_⟩;replace e3:=rB e3 hb;replace b6:=A_ (Kd.S_below (by (with_reducible repeat (first | apply Kd.S_alloc | apply Kd.S_drewN | apply Kd.S_drew));exact b6.out) hb);replace b7:=rB b7 hb;replace e4:=rB e4 hb;replace b4:=rB b4 hb;replace HB:=bB HB hb;(try clear hb);obtain ⟨z6,s9,K4⟩:=Kd.R_slice b4.out;subst K4) | ((with_reducible refine gate_callee (f:=58) rfl ?_);refine gL (some 82) Try.func58 #[.slice t1 d8.length t2,.slice z3 b5.length z4,.slice z6 b8.length s9] ?_;(with_reducible refine (shares_Better.calls k2 _ _ d8 _ _ b5 _ _ b8 l6 j9 _ ?side1 ?side2 ?side3 ?side4 ?side5 ?side6 L7.out).mono ?_);(case side1=>repeat (first | exact (Kd.R_reads' e3.out).2.2 | (with_reducible refine Kd.C_alloc ?_ _) | (with_reducible refine Kd.C_drewN ?_ _) | (with_reducible refine Kd.C_drew ?_)));(case side2=>exact (Kd.R_reads' e3.out).2.1);(case side3=>repeat (first | exact (Kd.S_reads' b6.out).2.2 | (with_reducible refine Kd.C_alloc ?_ _) | (with_reducible refine Kd.C_drewN ?_ _) | (with_reducible refine Kd.C_drew ?_)));(case side4=>exact (Kd.S_reads' b6.out).2.1);(case side5=>repeat (first | exact (Kd.R_reads' b4.out).2.2 | (with_reducible refine Kd.C_alloc ?_ _) | (with_reducible refine Kd.C_drewN ?_ _) | (with_reducible refine Kd.C_drew ?_)));(case side6=>exact (Kd.R_reads' b4.out).2.1);rintro e S6 ⟨rfl,hb⟩;refine ⟨_,rfl,?_⟩;replace e3:=rB e3 hb;replace b6:=A_ (Kd.S_below (by (with_reducible repeat (first | apply Kd.S_alloc | apply Kd.S_drewN | apply Kd.S_drew));exact b6.out) hb);replace b7:=rB b7 hb;replace e4:=rB e4 hb;replace b4:=rB b4 hb;replace HB:=bB HB hb;(try clear hb)) | ((with_reducible refine gate_callee (f:=33) rfl ?_);refine gL (some 103) Try.func33 #[.slice z6 b8.length s9,.slice z5 b2.length s8] ?_;(with_reducible refine (numnahref07_Same.calls k2 _ _ b8 _ _ b2 i5 _ ?side1 ?side2 ?side3 ?side4 Q2.out).mono ?_);(case side1=>repeat (first | exact (Kd.R_reads' b4.out).2.2 | (with_reducible refine Kd.C_alloc ?_ _) | (with_reducible refine Kd.C_drewN ?_ _) | (with_reducible refine Kd.C_drew ?_)));(case side2=>exact (Kd.R_reads' b4.out).2.1);(case side3=>repeat (first | exact (Kd.R_reads' b7.out).2.2 | (with_reducible refine Kd.C_alloc ?_ _) | (with_reducible refine Kd.C_drewN ?_ _) | (with_reducible refine Kd.C_drew ?_)));(case side4=>exact (Kd.R_reads' b7.out).2.1);rintro e w' ⟨rfl,⟨nd,rfl⟩⟩;refine ⟨_,rfl,?_⟩))
     go_loopg [15] k2 (fun kq Q3 w'=>∃ (b0:Int),Q3 = .int .i64 b0 ∧ Aside0 (numnahlaw07_SharesUp.l1 kq b5 b2 b8 b0 = some r) ∧ Aside0 (kq ≤ k2) ∧ Aside0 (Kd.S k45 45 w' w.heap.size (fun _=>True) (.slice z3 b5.length z4) b5) ∧ Aside0 (Kd.R k23 23 w' w.heap.size (fun k_=>some k_ ≠ ((.slice z6 b8.length s9):Value).ownBlock) (.slice z5 b2.length s8) b2) ∧ Aside0 (Kd.R k23 23 w' w.heap.size (fun k_=>some k_ ≠ ((.slice z5 b2.length s8):Value).ownBlock) (.slice z6 b8.length s9) b8) ∧ Aside0 (Below w.heap.size w w'))
     case atStart=>exact ⟨(0),(by first | rfl | (simp;done) | (simp [*];done)),H',⟨Nat.le_refl _⟩,⟨by (with_reducible repeat (first | apply Kd.S_alloc | apply Kd.S_drewN | apply Kd.S_drew));exact Kd.S_mono b6.out (fun _ hk=>trivial)⟩,⟨by (with_reducible repeat (first | apply Kd.R_alloc | apply Kd.R_drewN | apply Kd.R_drew));exact b7.out⟩,⟨by (with_reducible repeat (first | apply Kd.R_alloc | apply Kd.R_drewN | apply Kd.R_drew));exact b4.out⟩,⟨bl HB⟩⟩
     case round =>
      clear H'
      obtain ⟨b0,rfl,HA,z2,b6,b7,b4,HB⟩:=hrel
      cases gk with
      | zero=>exact absurd HA.out (by simp [numnahlaw07_SharesUp.l1])
      | succ k3 =>
       have H:=HA.out
       clear HA
       simp only [numnahlaw07_SharesUp.l1] at H
       by_cases C9:b0 < (b5.length:Int)
       case neg =>
        rw [if_neg C9] at H
        have G2:=decide_eq_false C9
        clear C9
        replace H:=Option.bind_eq_some_iff.mp H
        obtain ⟨s3,G3,H⟩:=H
        replace H:(some s3) = some r:=H
        have Q4:=A_ G3
        clear G3
        obtain rfl:=Option.some.inj H
        go_wp2_with (first | ((with_reducible refine gate_callee (f:=22) rfl ?_);refine gL (some 179) Try.func22 #[] ?_;(with_reducible refine (numnahlaw07_awake.calls k3  s3 _ Q4.out).mono ?_);rintro e S7 ⟨rfl,hb⟩;refine ⟨_,rfl,?_⟩;replace b6:=A_ (Kd.S_below (by (with_reducible repeat (first | apply Kd.S_alloc | apply Kd.S_drewN | apply Kd.S_drew));exact b6.out) hb);replace b7:=rB b7 hb;replace b4:=rB b4 hb;replace HB:=bB HB hb;(try clear hb)))
        go_ret
        exact ⟨by first | rfl | (simp [errW_none,errW_some] <;> rfl) | (simp [*,errW_none,errW_some] <;> rfl),bl HB⟩
       rw [if_pos C9] at H
       have G2:=decide_eq_true C9
       clear C9
       replace H:=gd H
       obtain ⟨L9,H⟩:=H
       have M0:=decide_eq_true L9
       clear L9
       replace H:=gd H
       obtain ⟨M1,H⟩:=H
       have M2:=decide_eq_true M1
       clear M1
       replace H:=gd H
       obtain ⟨M3,H⟩:=H
       have M4:=decide_eq_true M3
       clear M3
       replace H:=Option.bind_eq_some_iff.mp H
       obtain ⟨s2,G4,H⟩:=H
       replace H:(if s2 = true then (numnahlaw07_SharesUp.l2 k3 b5 b2 b8 b0 false 0) else (numnahlaw07_SharesUp.l1 k3 b5 b2 b8 (wrap64 (b0 + 1)))) = some r:=H
       have M5:=A_ G4
       clear G4
       by_cases I0:s2 = true
       case neg =>
        replace I0:=Bool.eq_false_iff.mpr I0
        subst I0
        rw [if_neg (show ¬ (false = true) by decide)] at H
        have H':=A_ H
        clear H
        try go_wp2
        replace b6:=A_ (Kd.S_drew b6.out)
        replace b7:=rD b7
        replace b4:=rD b4
        replace HB:=bD HB
        have o3:0 ≤ (b0:Int):=of_decide_eq_true (by first | (with_reducible assumption) | assumption)
        have o4:b0 < (b2.length:Int):=of_decide_eq_true (by first | (with_reducible assumption) | assumption)
        obtain ⟨b3,t8,l7,l8⟩:=at_T23 (Kd.R_reads' b7.out).2.2 b0 o3 o4
        cases t8
        replace o3:=eq_true o3
        replace o4:=eq_true o4
        have o5:0 ≤ (b0:Int):=of_decide_eq_true (by first | (with_reducible assumption) | assumption)
        have o6:b0 < (b8.length:Int):=of_decide_eq_true (by first | (with_reducible assumption) | assumption)
        obtain ⟨e6,t9,l9,m0⟩:=at_T23 (Kd.R_reads' b4.out).2.2 b0 o5 o6
        cases t9
        replace o5:=eq_true o5
        replace o6:=eq_true o6
        refine start_ (n:=10) (S:=fun w'=>w'.cell? (b3.add ((b0).toNat * 2)) = some (.int .i64 ((rd_T23 b2 b0).f0)) ∧ w'.cell? ⟨(b3.add ((b0).toNat * 2)).block,(b3.add ((b0).toNat * 2)).off + 1,none⟩ = some (.int .i64 ((rd_T23 b2 b0).f1)) ∧ w'.cell? (e6.add ((b0).toNat * 2)) = some (.int .i64 ((rd_T23 b8 b0).f0)) ∧ w'.cell? ⟨(e6.add ((b0).toNat * 2)).block,(e6.add ((b0).toNat * 2)).off + 1,none⟩ = some (.int .i64 ((rd_T23 b8 b0).f1))) (ds:=[]) (ba 10 0) (by kernel_rfl) rfl rfl ⟨l7,l8,l9,m0⟩ (fun hHeld=>?_);refine with_tabW numnahlaw07_SharesUp.tab23 numnahlaw07_SharesUp.bits23 (fun HT_ HW_=>?_)
        generalize wr.drew = S8 at b6 b7 b4 HB l7 l8 l9 m0 hHeld ⊢
        refine pq 0 111 1 HT_ ?_
        refine pq 1 112 3 HT_ ?_
        refine pq 2 113 7 HT_ ?_
        refine pq 4 115 23 HT_ ?_
        refine pq 5 116 55 HT_ ?_
        refine pq 6 117 119 HT_ ?_
        refine tq 3 114 127 HT_ HW_ hHeld ?_
        refine tq 7 118 255 HT_ HW_ hHeld ?_
        refine oq 8 119 511 HT_ (fun K hK=>?_)
        refine gq Try.func30 #[.agg #[.int .i64 ((rd_T23 b2 b0).f0),.int .i64 ((rd_T23 b2 b0).f1)],.agg #[.int .i64 ((rd_T23 b8 b0).f0),.int .i64 ((rd_T23 b8 b0).f1)]] ?_
        with_reducible refine (numnahref07_Less.calls ((rd_T23 b2 b0).f0) ((rd_T23 b2 b0).f1) ((rd_T23 b8 b0).f0) ((rd_T23 b8 b0).f1) false _ M5.out).mono ?_
        rintro e S9 ⟨rfl,hb⟩
        have G5:=(hb.cell (World.block_lt_of_cell? _ _ (hHeld.1))).trans (hHeld.1)
        have G6:=(hb.cell (World.block_lt_of_cell? _ _ (hHeld.2.1))).trans (hHeld.2.1)
        have G7:=(hb.cell (World.block_lt_of_cell? _ _ (hHeld.2.2.1))).trans (hHeld.2.2.1)
        have G8:=(hb.cell (World.block_lt_of_cell? _ _ (hHeld.2.2.2))).trans (hHeld.2.2.2)
        refine ⟨_,rfl,?_⟩
        replace b6:=A_ (Kd.S_below (by (with_reducible repeat (first | apply Kd.S_alloc | apply Kd.S_drewN | apply Kd.S_drew));exact b6.out) hb)
        replace b7:=rB b7 hb
        replace b4:=rB b4 hb
        replace HB:=bB HB hb
        (try clear hb)
        refine hz hK (fun hHeld=>?_)
        clear hK K
        refine nq 119 ?_
        refine pq 9 120 1023 HT_ ?_
        refine done_ (done_of HT_.out (by kernel_rfl)) ?_
        try go_wp2
        go_roundg k3
        case measure=>have:=s6.out;have:=s7.out;have:=z2.out;omega
        case rel=>exact ⟨(wrap64 (b0 + 1)),(by first | rfl | (simp;done) | (simp [*];done)),H',⟨by have:=s6.out;have:=s7.out;have:=z2.out;omega⟩,⟨by (with_reducible repeat (first | apply Kd.S_alloc | apply Kd.S_drewN | apply Kd.S_drew));exact b6.out⟩,⟨by (with_reducible repeat (first | apply Kd.R_alloc | apply Kd.R_drewN | apply Kd.R_drew));exact b7.out⟩,⟨by (with_reducible repeat (first | apply Kd.R_alloc | apply Kd.R_drewN | apply Kd.R_drew));exact b4.out⟩,⟨bl HB⟩⟩
       subst I0
       rw [if_pos rfl] at H
       have H':=A_ H
       clear H
       try go_wp2
       replace b6:=A_ (Kd.S_drew b6.out)
       replace b7:=rD b7
       replace b4:=rD b4
       replace HB:=bD HB
       have o3:0 ≤ (b0:Int):=of_decide_eq_true (by first | (with_reducible assumption) | assumption)
       have o4:b0 < (b2.length:Int):=of_decide_eq_true (by first | (with_reducible assumption) | assumption)
       obtain ⟨b3,t8,l7,l8⟩:=at_T23 (Kd.R_reads' b7.out).2.2 b0 o3 o4
       cases t8
       replace o3:=eq_true o3
       replace o4:=eq_true o4
       have o5:0 ≤ (b0:Int):=of_decide_eq_true (by first | (with_reducible assumption) | assumption)
       have o6:b0 < (b8.length:Int):=of_decide_eq_true (by first | (with_reducible assumption) | assumption)
       obtain ⟨e6,t9,l9,m0⟩:=at_T23 (Kd.R_reads' b4.out).2.2 b0 o5 o6
       cases t9
       replace o5:=eq_true o5
       replace o6:=eq_true o6
       refine start_ (n:=10) (S:=fun w'=>w'.cell? (b3.add ((b0).toNat * 2)) = some (.int .i64 ((rd_T23 b2 b0).f0)) ∧ w'.cell? ⟨(b3.add ((b0).toNat * 2)).block,(b3.add ((b0).toNat * 2)).off + 1,none⟩ = some (.int .i64 ((rd_T23 b2 b0).f1)) ∧ w'.cell? (e6.add ((b0).toNat * 2)) = some (.int .i64 ((rd_T23 b8 b0).f0)) ∧ w'.cell? ⟨(e6.add ((b0).toNat * 2)).block,(e6.add ((b0).toNat * 2)).off + 1,none⟩ = some (.int .i64 ((rd_T23 b8 b0).f1))) (ds:=[]) (ba 10 0) (by kernel_rfl) rfl rfl ⟨l7,l8,l9,m0⟩ (fun hHeld=>?_);refine with_tabW numnahlaw07_SharesUp.tab23 numnahlaw07_SharesUp.bits23 (fun HT_ HW_=>?_)
       generalize wr.drew = T0 at b6 b7 b4 HB l7 l8 l9 m0 hHeld ⊢
       refine pq 0 111 1 HT_ ?_
       refine pq 1 112 3 HT_ ?_
       refine pq 2 113 7 HT_ ?_
       refine pq 4 115 23 HT_ ?_
       refine pq 5 116 55 HT_ ?_
       refine pq 6 117 119 HT_ ?_
       refine tq 3 114 127 HT_ HW_ hHeld ?_
       refine tq 7 118 255 HT_ HW_ hHeld ?_
       refine oq 8 119 511 HT_ (fun K hK=>?_)
       refine gq Try.func30 #[.agg #[.int .i64 ((rd_T23 b2 b0).f0),.int .i64 ((rd_T23 b2 b0).f1)],.agg #[.int .i64 ((rd_T23 b8 b0).f0),.int .i64 ((rd_T23 b8 b0).f1)]] ?_
       with_reducible refine (numnahref07_Less.calls ((rd_T23 b2 b0).f0) ((rd_T23 b2 b0).f1) ((rd_T23 b8 b0).f0) ((rd_T23 b8 b0).f1) true _ M5.out).mono ?_
       rintro e U0 ⟨rfl,hb⟩
       have G5:=(hb.cell (World.block_lt_of_cell? _ _ (hHeld.1))).trans (hHeld.1)
       have G6:=(hb.cell (World.block_lt_of_cell? _ _ (hHeld.2.1))).trans (hHeld.2.1)
       have G7:=(hb.cell (World.block_lt_of_cell? _ _ (hHeld.2.2.1))).trans (hHeld.2.2.1)
       have G8:=(hb.cell (World.block_lt_of_cell? _ _ (hHeld.2.2.2))).trans (hHeld.2.2.2)
       refine ⟨_,rfl,?_⟩
       replace b6:=A_ (Kd.S_below (by (with_reducible repeat (first | apply Kd.S_alloc | apply Kd.S_drewN | apply Kd.S_drew));exact b6.out) hb)
       replace b7:=rB b7 hb
       replace b4:=rB b4 hb
       replace HB:=bB HB hb
       (try clear hb)
       refine hz hK (fun hHeld=>?_)
       clear hK K
       refine nq 119 ?_
       refine pq 9 120 1023 HT_ ?_
       refine done_ (done_of HT_.out (by kernel_rfl)) ?_
       try go_wp2
       go_loopg [16,17] k3 (fun kq Q5 Q6 w'=>∃ (q5:Bool) (b1:Int),Q5 = .bool q5 ∧ Q6 = .int .i64 b1 ∧ Aside0 (numnahlaw07_SharesUp.l2 kq b5 b2 b8 b0 q5 b1 = some r) ∧ Aside0 (kq ≤ k3) ∧ Aside0 (Kd.S k45 45 w' w.heap.size (fun _=>True) (.slice z3 b5.length z4) b5) ∧ Aside0 (Kd.R k23 23 w' w.heap.size (fun k_=>some k_ ≠ ((.slice (some e6) b8.length s9):Value).ownBlock) (.slice (some b3) b2.length s8) b2) ∧ Aside0 (Kd.R k23 23 w' w.heap.size (fun k_=>some k_ ≠ ((.slice (some b3) b2.length s8):Value).ownBlock) (.slice (some e6) b8.length s9) b8) ∧ Aside0 (Below w.heap.size w w'))
       case atStart=>exact ⟨(false),(0),(by first | rfl | (simp;done) | (simp [*];done)),(by first | rfl | (simp;done) | (simp [*];done)),H',⟨Nat.le_refl _⟩,⟨by (with_reducible repeat (first | apply Kd.S_alloc | apply Kd.S_drewN | apply Kd.S_drew));exact b6.out⟩,⟨by (with_reducible repeat (first | apply Kd.R_alloc | apply Kd.R_drewN | apply Kd.R_drew));exact b7.out⟩,⟨by (with_reducible repeat (first | apply Kd.R_alloc | apply Kd.R_drewN | apply Kd.R_drew));exact b4.out⟩,⟨bl HB⟩⟩
       case round =>
        clear H'
        obtain ⟨q5,b1,rfl,rfl,HA,z9,b6,b7,b4,HB⟩:=hrel
        cases gk with
        | zero=>exact absurd HA.out (by simp [numnahlaw07_SharesUp.l2])
        | succ k4 =>
         have H:=HA.out
         clear HA
         simp only [numnahlaw07_SharesUp.l2] at H
         by_cases D0:b1 < (b5.length:Int)
         case neg =>
          rw [if_neg D0] at H
          have G9:=decide_eq_false D0
          clear D0
          by_cases I1:q5 = true
          case neg =>
           replace I1:=Bool.eq_false_iff.mpr I1
           subst I1
           rw [if_neg (show ¬ (false = true) by decide)] at H
           exact absurd ((Option.some.inj H).trans HRT.out) (by decide)
          subst I1
          rw [if_pos rfl] at H
          have H':=A_ H
          clear H
          go_wp2
          go_roundg k4
          case measure=>have:=s6.out;have:=s7.out;have:=z2.out;have:=z9.out;omega
          case rel=>exact ⟨(wrap64 (b0 + 1)),(by first | rfl | (simp;done) | (simp [*];done)),H',⟨by have:=s6.out;have:=s7.out;have:=z2.out;have:=z9.out;omega⟩,⟨by (with_reducible repeat (first | apply Kd.S_alloc | apply Kd.S_drewN | apply Kd.S_drew));exact b6.out⟩,⟨by (with_reducible repeat (first | apply Kd.R_alloc | apply Kd.R_drewN | apply Kd.R_drew));exact b7.out⟩,⟨by (with_reducible repeat (first | apply Kd.R_alloc | apply Kd.R_drewN | apply Kd.R_drew));exact b4.out⟩,⟨bl HB⟩⟩
         rw [if_pos D0] at H
         have G9:=decide_eq_true D0
         clear D0
         replace H:=gd H
         obtain ⟨M6,H⟩:=H
         have M7:=decide_eq_true M6
         clear M6
         replace H:=gd H
         obtain ⟨M8,H⟩:=H
         have M9:=decide_eq_true M8
         clear M8
         replace H:=gd H
         obtain ⟨N0,H⟩:=H
         have N1:=decide_eq_true N0
         clear N0
         replace H:=gd H
         obtain ⟨N2,H⟩:=H
         have N3:=decide_eq_true N2
         clear N2
         replace H:=gd H
         obtain ⟨N4,H⟩:=H
         have N5:=decide_eq_true N4
         clear N4
         by_cases I2:q5 = true
         ·subst I2
          rw [if_pos rfl] at H
          have H':=A_ H
          clear H
          try go_wp2
          replace b6:=A_ (Kd.S_drew b6.out)
          replace b7:=rD b7
          replace b4:=rD b4
          replace HB:=bD HB
          have m1:0 ≤ (b1:Int):=of_decide_eq_true (by first | (with_reducible assumption) | assumption)
          have m2:b1 < (b2.length:Int):=of_decide_eq_true (by first | (with_reducible assumption) | assumption)
          obtain ⟨o7,q6,e7,e8⟩:=at_T23 (Kd.R_reads' b7.out).2.2 b1 m1 m2
          obtain rfl:b3 = o7:=(by injection q6)
          replace m1:=eq_true m1
          replace m2:=eq_true m2
          have m3:0 ≤ (b0:Int):=of_decide_eq_true (by first | (with_reducible assumption) | assumption)
          have m4:b0 < (b2.length:Int):=of_decide_eq_true (by first | (with_reducible assumption) | assumption)
          obtain ⟨o8,q7,e9,h0⟩:=at_T23 (Kd.R_reads' b7.out).2.2 b0 m3 m4
          obtain rfl:b3 = o8:=(by injection q7)
          replace m3:=eq_true m3
          replace m4:=eq_true m4
          have i6:0 ≤ (b0:Int):=of_decide_eq_true (by first | (with_reducible assumption) | assumption)
          have i7:b0 < (b5.length:Int):=of_decide_eq_true (by first | (with_reducible assumption) | assumption)
          obtain ⟨d7,n1,n2,q8,h2,d9,h3,h4⟩:=at_T45 (Kd.S_reads' b6.out).2.2 b0 i6 i7
          cases q8
          obtain ⟨x0,n3,n4,i8⟩:=Kd.S_get b6.out z45 b0 i6 (by first | exact i7 | exact of_decide_eq_true (by first | (with_reducible assumption) | assumption) | (have e_:=(Kd.S_reads' b6.out).1;omega))
          obtain ⟨q9,rfl,e0⟩:=k45_openM n4
          have b9:=i8 1 _ rfl
          rw [add_field _ _ 1 (by omega)] at b9
          replace b9:=Option.some.inj (b9.symm.trans d9)
          rw [b9] at e0
          have d5:=A_ (show Kd.R (Kd.int .i64) 3 _ _ _ _ ((rd_T45 b5 b0).f1) from e0)
          clear b9 e0 i8 n3
          have d0:=A_ h4
          have r0:=A_ h3
          clear h4 h3
          replace i6:=eq_true i6
          replace i7:=eq_true i7
          have m5:0 ≤ (b0:Int):=of_decide_eq_true (by first | (with_reducible assumption) | assumption)
          have m6:b0 < (b2.length:Int):=of_decide_eq_true (by first | (with_reducible assumption) | assumption)
          obtain ⟨o9,r1,h5,h6⟩:=at_T23 (Kd.R_reads' b7.out).2.2 b0 m5 m6
          obtain rfl:b3 = o9:=(by injection r1)
          replace m5:=eq_true m5
          replace m6:=eq_true m6
          have m7:0 ≤ (b1:Int):=of_decide_eq_true (by first | (with_reducible assumption) | assumption)
          have m8:b1 < (b2.length:Int):=of_decide_eq_true (by first | (with_reducible assumption) | assumption)
          obtain ⟨p0,r2,h7,h8⟩:=at_T23 (Kd.R_reads' b7.out).2.2 b1 m7 m8
          obtain rfl:b3 = p0:=(by injection r2)
          replace m7:=eq_true m7
          replace m8:=eq_true m8
          have i9:0 ≤ (b1:Int):=of_decide_eq_true (by first | (with_reducible assumption) | assumption)
          have j5:b1 < (b5.length:Int):=of_decide_eq_true (by first | (with_reducible assumption) | assumption)
          obtain ⟨p1,n5,n6,r3,h9,e1,i0,i1⟩:=at_T45 (Kd.S_reads' b6.out).2.2 b1 i9 j5
          obtain rfl:d7 = p1:=(by injection r3)
          obtain ⟨x2,n7,n8,j7⟩:=Kd.S_get b6.out z45 b1 i9 (by first | exact j5 | exact of_decide_eq_true (by first | (with_reducible assumption) | assumption) | (have e_:=(Kd.S_reads' b6.out).1;omega))
          obtain ⟨r4,rfl,e2⟩:=k45_openM n8
          have d1:=j7 1 _ rfl
          rw [add_field _ _ 1 (by omega)] at d1
          replace d1:=Option.some.inj (d1.symm.trans e1)
          rw [d1] at e2
          have d6:=A_ (show Kd.R (Kd.int .i64) 3 _ _ _ _ ((rd_T45 b5 b1).f1) from e2)
          clear d1 e2 j7 n7
          have d2:=A_ i1
          have r5:=A_ i0
          clear i1 i0
          replace i9:=eq_true i9
          replace j5:=eq_true j5
          refine start_ (n:=36) (S:=fun w'=>w'.cell? (b3.add ((b1).toNat * 2)) = some (.int .i64 ((rd_T23 b2 b1).f0)) ∧ w'.cell? ⟨(b3.add ((b1).toNat * 2)).block,(b3.add ((b1).toNat * 2)).off + 1,none⟩ = some (.int .i64 ((rd_T23 b2 b1).f1)) ∧ w'.cell? (b3.add ((b0).toNat * 2)) = some (.int .i64 ((rd_T23 b2 b0).f0)) ∧ w'.cell? ⟨(b3.add ((b0).toNat * 2)).block,(b3.add ((b0).toNat * 2)).off + 1,none⟩ = some (.int .i64 ((rd_T23 b2 b0).f1)) ∧ w'.cell? (d7.add ((b0).toNat * 2)) = some (.int .i64 ((rd_T45 b5 b0).f0)) ∧ w'.cell? ⟨(d7.add ((b0).toNat * 2)).block,(d7.add ((b0).toNat * 2)).off + 1,none⟩ = some (.slice n1 ((rd_T45 b5 b0).f1).length n2) ∧ w'.cell? (b3.add ((b0).toNat * 2)) = some (.int .i64 ((rd_T23 b2 b0).f0)) ∧ w'.cell? ⟨(b3.add ((b0).toNat * 2)).block,(b3.add ((b0).toNat * 2)).off + 1,none⟩ = some (.int .i64 ((rd_T23 b2 b0).f1)) ∧ w'.cell? (b3.add ((b1).toNat * 2)) = some (.int .i64 ((rd_T23 b2 b1).f0)) ∧ w'.cell? ⟨(b3.add ((b1).toNat * 2)).block,(b3.add ((b1).toNat * 2)).off + 1,none⟩ = some (.int .i64 ((rd_T23 b2 b1).f1)) ∧ w'.cell? (d7.add ((b1).toNat * 2)) = some (.int .i64 ((rd_T45 b5 b1).f0)) ∧ w'.cell? ⟨(d7.add ((b1).toNat * 2)).block,(d7.add ((b1).toNat * 2)).off + 1,none⟩ = some (.slice n5 ((rd_T45 b5 b1).f1).length n6)) (ds:=[]) (ba 36 0) (by kernel_rfl) rfl rfl ⟨e7,e8,e9,h0,h2,d9,h5,h6,h7,h8,h9,e1⟩ (fun hHeld=>?_);refine with_tabW numnahlaw07_SharesUp.tab28 numnahlaw07_SharesUp.bits28 (fun HT_ HW_=>?_)
          generalize wr.drew = Q7 at b6 b7 b4 HB d5 d6 d0 d2 e7 e8 e9 h0 h2 d9 h5 h6 h7 h8 h9 e1 hHeld ⊢
          refine pq 0 127 1 HT_ ?_
          refine pq 1 128 3 HT_ ?_
          refine pq 2 129 7 HT_ ?_
          refine pq 3 130 15 HT_ ?_
          refine pq 5 132 47 HT_ ?_
          refine pq 6 133 111 HT_ ?_
          refine pq 7 134 239 HT_ ?_
          refine pq 8 135 495 HT_ ?_
          refine pq 11 138 2543 HT_ ?_
          refine pq 12 139 6639 HT_ ?_
          refine pq 13 140 14831 HT_ ?_
          refine pq 14 141 31215 HT_ ?_
          refine pq 17 144 162287 HT_ ?_
          refine pq 18 145 424431 HT_ ?_
          refine pq 19 146 948719 HT_ ?_
          refine pq 20 147 1997295 HT_ ?_
          refine pq 22 149 6191599 HT_ ?_
          refine pq 23 150 14580207 HT_ ?_
          refine pq 24 151 31357423 HT_ ?_
          refine pq 25 152 64911855 HT_ ?_
          refine pq 28 155 333347311 HT_ ?_
          refine pq 29 156 870218223 HT_ ?_
          refine pq 30 157 1943960047 HT_ ?_
          refine pq 31 158 4091443695 HT_ ?_
          refine tq 4 131 4091443711 HT_ HW_ hHeld ?_
          refine tq 9 136 4091444223 HT_ HW_ hHeld ?_
          refine pq 10 137 4091445247 HT_ ?_
          refine tq 15 142 4091478015 HT_ HW_ hHeld ?_
          refine pq 16 143 4091543551 HT_ ?_
          refine tq 21 148 4093640703 HT_ HW_ hHeld ?_
          refine tq 26 153 4160749567 HT_ HW_ hHeld ?_
          refine pq 27 154 4294967295 HT_ ?_
          refine tq 32 159 8589934591 HT_ HW_ hHeld ?_
          refine pq 33 160 17179869183 HT_ ?_
          refine pq 34 161 34359738367 HT_ ?_
          refine pq 35 18 68719476735 HT_ ?_
          refine done_ (done_of HT_.out (by kernel_rfl)) ?_
          try go_wp2
          replace b6:=A_ (Kd.S_drew b6.out)
          replace b7:=rD b7
          replace b4:=rD b4
          replace d5:=rD d5
          replace d6:=rD d6
          replace d0:=A_ (Kd.C_drew d0.out)
          replace d2:=A_ (Kd.C_drew d2.out)
          replace HB:=bD HB
          refine st 16 (fun w'=>True) [] numnahlaw07_SharesUp.tab29 numnahlaw07_SharesUp.bits29 (fun hHeld HT_ HW_=>?_)
          generalize Q7.drew = U1 at b6 b7 b4 d5 d6 d0 d2 HB hHeld ⊢
          refine pq 0 162 1 HT_ ?_
          refine pq 1 163 3 HT_ ?_
          refine pu 2 164 7 HT_ ?_
          refine pu 3 165 15 HT_ ?_
          refine pu 4 166 31 HT_ ?_
          refine pu 5 167 63 HT_ ?_
          refine pu 6 168 127 HT_ ?_
          refine pu 7 169 255 HT_ ?_
          refine pu 8 170 511 HT_ ?_
          refine pu 9 171 1023 HT_ ?_
          refine pu 10 172 2047 HT_ ?_
          refine pu 11 173 4095 HT_ ?_
          refine pu 12 174 8191 HT_ ?_
          refine pu 13 175 16383 HT_ ?_
          refine pq 14 176 32767 HT_ ?_
          refine pq 15 16 65535 HT_ ?_
          refine done_ (done_of HT_.out (by kernel_rfl)) ?_
          try go_wp2
          go_roundg k4
          case measure=>have:=s6.out;have:=s7.out;have:=z2.out;have:=z9.out;omega
          case rel=>exact ⟨(true),(wrap64 (b1 + 1)),(by first | rfl | (simp;done) | (simp [*];done)),(by first | rfl | (simp;done) | (simp [*];done)),H',⟨by have:=s6.out;have:=s7.out;have:=z2.out;have:=z9.out;omega⟩,⟨by (with_reducible repeat (first | apply Kd.S_alloc | apply Kd.S_drewN | apply Kd.S_drew));exact b6.out⟩,⟨by (with_reducible repeat (first | apply Kd.R_alloc | apply Kd.R_drewN | apply Kd.R_drew));exact b7.out⟩,⟨by (with_reducible repeat (first | apply Kd.R_alloc | apply Kd.R_drewN | apply Kd.R_drew));exact b4.out⟩,⟨bl HB⟩⟩
         replace I2:=Bool.eq_false_iff.mpr I2
         subst I2
         rw [if_neg (show ¬ (false = true) by decide)] at H
         by_cases D1:(wrap64 ((wrap64 (((rd_T23 b2 b1).f0) * ((rd_T23 b2 b0).f1))) * ((rd_T45 b5 b0).f0))) ≤ (wrap64 ((wrap64 (((rd_T23 b2 b0).f0) * ((rd_T23 b2 b1).f1))) * ((rd_T45 b5 b1).f0)))
         case neg =>
          rw [if_neg D1] at H
          have H0:=decide_eq_false D1
          clear D1
          have H':=A_ H
          clear H
          try go_wp2
          replace b6:=A_ (Kd.S_drew b6.out)
          replace b7:=rD b7
          replace b4:=rD b4
          replace HB:=bD HB
          have m1:0 ≤ (b1:Int):=of_decide_eq_true (by first | (with_reducible assumption) | assumption)
          have m2:b1 < (b2.length:Int):=of_decide_eq_true (by first | (with_reducible assumption) | assumption)
          obtain ⟨o7,q6,e7,e8⟩:=at_T23 (Kd.R_reads' b7.out).2.2 b1 m1 m2
          obtain rfl:b3 = o7:=(by injection q6)
          replace m1:=eq_true m1
          replace m2:=eq_true m2
          have m3:0 ≤ (b0:Int):=of_decide_eq_true (by first | (with_reducible assumption) | assumption)
          have m4:b0 < (b2.length:Int):=of_decide_eq_true (by first | (with_reducible assumption) | assumption)
          obtain ⟨o8,q7,e9,h0⟩:=at_T23 (Kd.R_reads' b7.out).2.2 b0 m3 m4
          obtain rfl:b3 = o8:=(by injection q7)
          replace m3:=eq_true m3
          replace m4:=eq_true m4
          have i6:0 ≤ (b0:Int):=of_decide_eq_true (by first | (with_reducible assumption) | assumption)
          have i7:b0 < (b5.length:Int):=of_decide_eq_true (by first | (with_reducible assumption) | assumption)
          obtain ⟨d7,n1,n2,q8,h2,d9,h3,h4⟩:=at_T45 (Kd.S_reads' b6.out).2.2 b0 i6 i7
          cases q8
          obtain ⟨x0,n3,n4,i8⟩:=Kd.S_get b6.out z45 b0 i6 (by first | exact i7 | exact of_decide_eq_true (by first | (with_reducible assumption) | assumption) | (have e_:=(Kd.S_reads' b6.out).1;omega))
          obtain ⟨q9,rfl,e0⟩:=k45_openM n4
          have b9:=i8 1 _ rfl
          rw [add_field _ _ 1 (by omega)] at b9
          replace b9:=Option.some.inj (b9.symm.trans d9)
          rw [b9] at e0
          have d5:=A_ (show Kd.R (Kd.int .i64) 3 _ _ _ _ ((rd_T45 b5 b0).f1) from e0)
          clear b9 e0 i8 n3
          have d0:=A_ h4
          have r0:=A_ h3
          clear h4 h3
          replace i6:=eq_true i6
          replace i7:=eq_true i7
          have m5:0 ≤ (b0:Int):=of_decide_eq_true (by first | (with_reducible assumption) | assumption)
          have m6:b0 < (b2.length:Int):=of_decide_eq_true (by first | (with_reducible assumption) | assumption)
          obtain ⟨o9,r1,h5,h6⟩:=at_T23 (Kd.R_reads' b7.out).2.2 b0 m5 m6
          obtain rfl:b3 = o9:=(by injection r1)
          replace m5:=eq_true m5
          replace m6:=eq_true m6
          have m7:0 ≤ (b1:Int):=of_decide_eq_true (by first | (with_reducible assumption) | assumption)
          have m8:b1 < (b2.length:Int):=of_decide_eq_true (by first | (with_reducible assumption) | assumption)
          obtain ⟨p0,r2,h7,h8⟩:=at_T23 (Kd.R_reads' b7.out).2.2 b1 m7 m8
          obtain rfl:b3 = p0:=(by injection r2)
          replace m7:=eq_true m7
          replace m8:=eq_true m8
          have i9:0 ≤ (b1:Int):=of_decide_eq_true (by first | (with_reducible assumption) | assumption)
          have j5:b1 < (b5.length:Int):=of_decide_eq_true (by first | (with_reducible assumption) | assumption)
          obtain ⟨p1,n5,n6,r3,h9,e1,i0,i1⟩:=at_T45 (Kd.S_reads' b6.out).2.2 b1 i9 j5
          obtain rfl:d7 = p1:=(by injection r3)
          obtain ⟨x2,n7,n8,j7⟩:=Kd.S_get b6.out z45 b1 i9 (by first | exact j5 | exact of_decide_eq_true (by first | (with_reducible assumption) | assumption) | (have e_:=(Kd.S_reads' b6.out).1;omega))
          obtain ⟨r4,rfl,e2⟩:=k45_openM n8
          have d1:=j7 1 _ rfl
          rw [add_field _ _ 1 (by omega)] at d1
          replace d1:=Option.some.inj (d1.symm.trans e1)
          rw [d1] at e2
          have d6:=A_ (show Kd.R (Kd.int .i64) 3 _ _ _ _ ((rd_T45 b5 b1).f1) from e2)
          clear d1 e2 j7 n7
          have d2:=A_ i1
          have r5:=A_ i0
          clear i1 i0
          replace i9:=eq_true i9
          replace j5:=eq_true j5
          refine start_ (n:=36) (S:=fun w'=>w'.cell? (b3.add ((b1).toNat * 2)) = some (.int .i64 ((rd_T23 b2 b1).f0)) ∧ w'.cell? ⟨(b3.add ((b1).toNat * 2)).block,(b3.add ((b1).toNat * 2)).off + 1,none⟩ = some (.int .i64 ((rd_T23 b2 b1).f1)) ∧ w'.cell? (b3.add ((b0).toNat * 2)) = some (.int .i64 ((rd_T23 b2 b0).f0)) ∧ w'.cell? ⟨(b3.add ((b0).toNat * 2)).block,(b3.add ((b0).toNat * 2)).off + 1,none⟩ = some (.int .i64 ((rd_T23 b2 b0).f1)) ∧ w'.cell? (d7.add ((b0).toNat * 2)) = some (.int .i64 ((rd_T45 b5 b0).f0)) ∧ w'.cell? ⟨(d7.add ((b0).toNat * 2)).block,(d7.add ((b0).toNat * 2)).off + 1,none⟩ = some (.slice n1 ((rd_T45 b5 b0).f1).length n2) ∧ w'.cell? (b3.add ((b0).toNat * 2)) = some (.int .i64 ((rd_T23 b2 b0).f0)) ∧ w'.cell? ⟨(b3.add ((b0).toNat * 2)).block,(b3.add ((b0).toNat * 2)).off + 1,none⟩ = some (.int .i64 ((rd_T23 b2 b0).f1)) ∧ w'.cell? (b3.add ((b1).toNat * 2)) = some (.int .i64 ((rd_T23 b2 b1).f0)) ∧ w'.cell? ⟨(b3.add ((b1).toNat * 2)).block,(b3.add ((b1).toNat * 2)).off + 1,none⟩ = some (.int .i64 ((rd_T23 b2 b1).f1)) ∧ w'.cell? (d7.add ((b1).toNat * 2)) = some (.int .i64 ((rd_T45 b5 b1).f0)) ∧ w'.cell? ⟨(d7.add ((b1).toNat * 2)).block,(d7.add ((b1).toNat * 2)).off + 1,none⟩ = some (.slice n5 ((rd_T45 b5 b1).f1).length n6)) (ds:=[]) (ba 36 0) (by kernel_rfl) rfl rfl ⟨e7,e8,e9,h0,h2,d9,h5,h6,h7,h8,h9,e1⟩ (fun hHeld=>?_);refine with_tabW numnahlaw07_SharesUp.tab28 numnahlaw07_SharesUp.bits28 (fun HT_ HW_=>?_)
          generalize wr.drew = Q8 at b6 b7 b4 HB d5 d6 d0 d2 e7 e8 e9 h0 h2 d9 h5 h6 h7 h8 h9 e1 hHeld ⊢
          refine pq 0 127 1 HT_ ?_
          refine pq 1 128 3 HT_ ?_
          refine pq 2 129 7 HT_ ?_
          refine pq 3 130 15 HT_ ?_
          refine pq 5 132 47 HT_ ?_
          refine pq 6 133 111 HT_ ?_
          refine pq 7 134 239 HT_ ?_
          refine pq 8 135 495 HT_ ?_
          refine pq 11 138 2543 HT_ ?_
          refine pq 12 139 6639 HT_ ?_
          refine pq 13 140 14831 HT_ ?_
          refine pq 14 141 31215 HT_ ?_
          refine pq 17 144 162287 HT_ ?_
          refine pq 18 145 424431 HT_ ?_
          refine pq 19 146 948719 HT_ ?_
          refine pq 20 147 1997295 HT_ ?_
          refine pq 22 149 6191599 HT_ ?_
          refine pq 23 150 14580207 HT_ ?_
          refine pq 24 151 31357423 HT_ ?_
          refine pq 25 152 64911855 HT_ ?_
          refine pq 28 155 333347311 HT_ ?_
          refine pq 29 156 870218223 HT_ ?_
          refine pq 30 157 1943960047 HT_ ?_
          refine pq 31 158 4091443695 HT_ ?_
          refine tq 4 131 4091443711 HT_ HW_ hHeld ?_
          refine tq 9 136 4091444223 HT_ HW_ hHeld ?_
          refine pq 10 137 4091445247 HT_ ?_
          refine tq 15 142 4091478015 HT_ HW_ hHeld ?_
          refine pq 16 143 4091543551 HT_ ?_
          refine tq 21 148 4093640703 HT_ HW_ hHeld ?_
          refine tq 26 153 4160749567 HT_ HW_ hHeld ?_
          refine pq 27 154 4294967295 HT_ ?_
          refine tq 32 159 8589934591 HT_ HW_ hHeld ?_
          refine pq 33 160 17179869183 HT_ ?_
          refine pq 34 161 34359738367 HT_ ?_
          refine pq 35 18 68719476735 HT_ ?_
          refine done_ (done_of HT_.out (by kernel_rfl)) ?_
          try go_wp2
          replace b6:=A_ (Kd.S_drew b6.out)
          replace b7:=rD b7
          replace b4:=rD b4
          replace d5:=rD d5
          replace d6:=rD d6
          replace d0:=A_ (Kd.C_drew d0.out)
          replace d2:=A_ (Kd.C_drew d2.out)
          replace HB:=bD HB
          refine st 16 (fun w'=>True) [] numnahlaw07_SharesUp.tab29 numnahlaw07_SharesUp.bits29 (fun hHeld HT_ HW_=>?_)
          generalize Q8.drew = U2 at b6 b7 b4 d5 d6 d0 d2 HB hHeld ⊢
          refine pq 0 162 1 HT_ ?_
          refine pq 1 163 3 HT_ ?_
          refine pq 2 164 7 HT_ ?_
          refine pq 3 165 15 HT_ ?_
          refine pu 4 166 31 HT_ ?_
          refine pu 5 167 63 HT_ ?_
          refine pu 6 168 127 HT_ ?_
          refine pu 7 169 255 HT_ ?_
          refine pu 8 170 511 HT_ ?_
          refine pu 9 171 1023 HT_ ?_
          refine pu 10 172 2047 HT_ ?_
          refine pu 11 173 4095 HT_ ?_
          refine pu 12 174 8191 HT_ ?_
          refine pq 13 175 16383 HT_ ?_
          refine pq 14 176 32767 HT_ ?_
          refine pq 15 16 65535 HT_ ?_
          refine done_ (done_of HT_.out (by kernel_rfl)) ?_
          try go_wp2
          go_roundg k4
          case measure=>have:=s6.out;have:=s7.out;have:=z2.out;have:=z9.out;omega
          case rel=>exact ⟨(false),(wrap64 (b1 + 1)),(by first | rfl | (simp;done) | (simp [*];done)),(by first | rfl | (simp;done) | (simp [*];done)),H',⟨by have:=s6.out;have:=s7.out;have:=z2.out;have:=z9.out;omega⟩,⟨by (with_reducible repeat (first | apply Kd.S_alloc | apply Kd.S_drewN | apply Kd.S_drew));exact b6.out⟩,⟨by (with_reducible repeat (first | apply Kd.R_alloc | apply Kd.R_drewN | apply Kd.R_drew));exact b7.out⟩,⟨by (with_reducible repeat (first | apply Kd.R_alloc | apply Kd.R_drewN | apply Kd.R_drew));exact b4.out⟩,⟨bl HB⟩⟩
         rw [if_pos D1] at H
         have H0:=decide_eq_true D1
         clear D1
         replace H:=gd H
         obtain ⟨N6,H⟩:=H
         have N7:=decide_eq_true N6
         clear N6
         replace H:=Option.bind_eq_some_iff.mp H
         obtain ⟨p8,H1,H⟩:=H
         replace H:(numnahlaw07_SharesUp.l2 k4 b5 b2 b8 b0 p8 (wrap64 (b1 + 1))) = some r:=H
         have Q9:=A_ H1
         clear H1
         have H':=A_ H
         clear H
         try go_wp2
         replace b6:=A_ (Kd.S_drew b6.out)
         replace b7:=rD b7
         replace b4:=rD b4
         replace HB:=bD HB
         have m1:0 ≤ (b1:Int):=of_decide_eq_true (by first | (with_reducible assumption) | assumption)
         have m2:b1 < (b2.length:Int):=of_decide_eq_true (by first | (with_reducible assumption) | assumption)
         obtain ⟨o7,q6,e7,e8⟩:=at_T23 (Kd.R_reads' b7.out).2.2 b1 m1 m2
         obtain rfl:b3 = o7:=(by injection q6)
         replace m1:=eq_true m1
         replace m2:=eq_true m2
         have m3:0 ≤ (b0:Int):=of_decide_eq_true (by first | (with_reducible assumption) | assumption)
         have m4:b0 < (b2.length:Int):=of_decide_eq_true (by first | (with_reducible assumption) | assumption)
         obtain ⟨o8,q7,e9,h0⟩:=at_T23 (Kd.R_reads' b7.out).2.2 b0 m3 m4
         obtain rfl:b3 = o8:=(by injection q7)
         replace m3:=eq_true m3
         replace m4:=eq_true m4
         have i6:0 ≤ (b0:Int):=of_decide_eq_true (by first | (with_reducible assumption) | assumption)
         have i7:b0 < (b5.length:Int):=of_decide_eq_true (by first | (with_reducible assumption) | assumption)
         obtain ⟨d7,n1,n2,q8,h2,d9,h3,h4⟩:=at_T45 (Kd.S_reads' b6.out).2.2 b0 i6 i7
         cases q8
         obtain ⟨x0,n3,n4,i8⟩:=Kd.S_get b6.out z45 b0 i6 (by first | exact i7 | exact of_decide_eq_true (by first | (with_reducible assumption) | assumption) | (have e_:=(Kd.S_reads' b6.out).1;omega))
         obtain ⟨q9,rfl,e0⟩:=k45_openM n4
         have b9:=i8 1 _ rfl
         rw [add_field _ _ 1 (by omega)] at b9
         replace b9:=Option.some.inj (b9.symm.trans d9)
         rw [b9] at e0
         have d5:=A_ (show Kd.R (Kd.int .i64) 3 _ _ _ _ ((rd_T45 b5 b0).f1) from e0)
         clear b9 e0 i8 n3
         have d0:=A_ h4
         have r0:=A_ h3
         clear h4 h3
         replace i6:=eq_true i6
         replace i7:=eq_true i7
         have m5:0 ≤ (b0:Int):=of_decide_eq_true (by first | (with_reducible assumption) | assumption)
         have m6:b0 < (b2.length:Int):=of_decide_eq_true (by first | (with_reducible assumption) | assumption)
         obtain ⟨o9,r1,h5,h6⟩:=at_T23 (Kd.R_reads' b7.out).2.2 b0 m5 m6
         obtain rfl:b3 = o9:=(by injection r1)
         replace m5:=eq_true m5
         replace m6:=eq_true m6
         have m7:0 ≤ (b1:Int):=of_decide_eq_true (by first | (with_reducible assumption) | assumption)
         have m8:b1 < (b2.length:Int):=of_decide_eq_true (by first | (with_reducible assumption) | assumption)
         obtain ⟨p0,r2,h7,h8⟩:=at_T23 (Kd.R_reads' b7.out).2.2 b1 m7 m8
         obtain rfl:b3 = p0:=(by injection r2)
         replace m7:=eq_true m7
         replace m8:=eq_true m8
         have i9:0 ≤ (b1:Int):=of_decide_eq_true (by first | (with_reducible assumption) | assumption)
         have j5:b1 < (b5.length:Int):=of_decide_eq_true (by first | (with_reducible assumption) | assumption)
         obtain ⟨p1,n5,n6,r3,h9,e1,i0,i1⟩:=at_T45 (Kd.S_reads' b6.out).2.2 b1 i9 j5
         obtain rfl:d7 = p1:=(by injection r3)
         obtain ⟨x2,n7,n8,j7⟩:=Kd.S_get b6.out z45 b1 i9 (by first | exact j5 | exact of_decide_eq_true (by first | (with_reducible assumption) | assumption) | (have e_:=(Kd.S_reads' b6.out).1;omega))
         obtain ⟨r4,rfl,e2⟩:=k45_openM n8
         have d1:=j7 1 _ rfl
         rw [add_field _ _ 1 (by omega)] at d1
         replace d1:=Option.some.inj (d1.symm.trans e1)
         rw [d1] at e2
         have d6:=A_ (show Kd.R (Kd.int .i64) 3 _ _ _ _ ((rd_T45 b5 b1).f1) from e2)
         clear d1 e2 j7 n7
         have d2:=A_ i1
         have r5:=A_ i0
         clear i1 i0
         replace i9:=eq_true i9
         replace j5:=eq_true j5
         refine start_ (n:=36) (S:=fun w'=>w'.cell? (b3.add ((b1).toNat * 2)) = some (.int .i64 ((rd_T23 b2 b1).f0)) ∧ w'.cell? ⟨(b3.add ((b1).toNat * 2)).block,(b3.add ((b1).toNat * 2)).off + 1,none⟩ = some (.int .i64 ((rd_T23 b2 b1).f1)) ∧ w'.cell? (b3.add ((b0).toNat * 2)) = some (.int .i64 ((rd_T23 b2 b0).f0)) ∧ w'.cell? ⟨(b3.add ((b0).toNat * 2)).block,(b3.add ((b0).toNat * 2)).off + 1,none⟩ = some (.int .i64 ((rd_T23 b2 b0).f1)) ∧ w'.cell? (d7.add ((b0).toNat * 2)) = some (.int .i64 ((rd_T45 b5 b0).f0)) ∧ w'.cell? ⟨(d7.add ((b0).toNat * 2)).block,(d7.add ((b0).toNat * 2)).off + 1,none⟩ = some (.slice n1 ((rd_T45 b5 b0).f1).length n2) ∧ w'.cell? (b3.add ((b0).toNat * 2)) = some (.int .i64 ((rd_T23 b2 b0).f0)) ∧ w'.cell? ⟨(b3.add ((b0).toNat * 2)).block,(b3.add ((b0).toNat * 2)).off + 1,none⟩ = some (.int .i64 ((rd_T23 b2 b0).f1)) ∧ w'.cell? (b3.add ((b1).toNat * 2)) = some (.int .i64 ((rd_T23 b2 b1).f0)) ∧ w'.cell? ⟨(b3.add ((b1).toNat * 2)).block,(b3.add ((b1).toNat * 2)).off + 1,none⟩ = some (.int .i64 ((rd_T23 b2 b1).f1)) ∧ w'.cell? (d7.add ((b1).toNat * 2)) = some (.int .i64 ((rd_T45 b5 b1).f0)) ∧ w'.cell? ⟨(d7.add ((b1).toNat * 2)).block,(d7.add ((b1).toNat * 2)).off + 1,none⟩ = some (.slice n5 ((rd_T45 b5 b1).f1).length n6)) (ds:=[]) (ba 36 0) (by kernel_rfl) rfl rfl ⟨e7,e8,e9,h0,h2,d9,h5,h6,h7,h8,h9,e1⟩ (fun hHeld=>?_);refine with_tabW numnahlaw07_SharesUp.tab28 numnahlaw07_SharesUp.bits28 (fun HT_ HW_=>?_)
         generalize wr.drew = R0 at b6 b7 b4 HB d5 d6 d0 d2 e7 e8 e9 h0 h2 d9 h5 h6 h7 h8 h9 e1 hHeld ⊢
         refine pq 0 127 1 HT_ ?_
         refine pq 1 128 3 HT_ ?_
         refine pq 2 129 7 HT_ ?_
         refine pq 3 130 15 HT_ ?_
         refine pq 5 132 47 HT_ ?_
         refine pq 6 133 111 HT_ ?_
         refine pq 7 134 239 HT_ ?_
         refine pq 8 135 495 HT_ ?_
         refine pq 11 138 2543 HT_ ?_
         refine pq 12 139 6639 HT_ ?_
         refine pq 13 140 14831 HT_ ?_
         refine pq 14 141 31215 HT_ ?_
         refine pq 17 144 162287 HT_ ?_
         refine pq 18 145 424431 HT_ ?_
         refine pq 19 146 948719 HT_ ?_
         refine pq 20 147 1997295 HT_ ?_
         refine pq 22 149 6191599 HT_ ?_
         refine pq 23 150 14580207 HT_ ?_
         refine pq 24 151 31357423 HT_ ?_
         refine pq 25 152 64911855 HT_ ?_
         refine pq 28 155 333347311 HT_ ?_
         refine pq 29 156 870218223 HT_ ?_
         refine pq 30 157 1943960047 HT_ ?_
         refine pq 31 158 4091443695 HT_ ?_
         refine tq 4 131 4091443711 HT_ HW_ hHeld ?_
         refine tq 9 136 4091444223 HT_ HW_ hHeld ?_
         refine pq 10 137 4091445247 HT_ ?_
         refine tq 15 142 4091478015 HT_ HW_ hHeld ?_
         refine pq 16 143 4091543551 HT_ ?_
         refine tq 21 148 4093640703 HT_ HW_ hHeld ?_
         refine tq 26 153 4160749567 HT_ HW_ hHeld ?_
         refine pq 27 154 4294967295 HT_ ?_
         refine tq 32 159 8589934591 HT_ HW_ hHeld ?_
         refine pq 33 160 17179869183 HT_ ?_
         refine pq 34 161 34359738367 HT_ ?_
         refine pq 35 18 68719476735 HT_ ?_
         refine done_ (done_of HT_.out (by kernel_rfl)) ?_
         try go_wp2
         replace b6:=A_ (Kd.S_drew b6.out)
         replace b7:=rD b7
         replace b4:=rD b4
         replace d5:=rD d5
         replace d6:=rD d6
         replace d0:=A_ (Kd.C_drew d0.out)
         replace d2:=A_ (Kd.C_drew d2.out)
         replace HB:=bD HB
         have x3:0 ≤ (b1:Int):=of_decide_eq_true (by first | (with_reducible assumption) | assumption)
         have x4:b1 < (b8.length:Int):=of_decide_eq_true (by first | (with_reducible assumption) | assumption)
         obtain ⟨C0,H2,r6,r7⟩:=at_T23 (Kd.R_reads' b4.out).2.2 b1 x3 x4
         obtain rfl:e6 = C0:=(by injection H2)
         replace x3:=eq_true x3
         replace x4:=eq_true x4
         have x9:0 ≤ (b1:Int):=of_decide_eq_true (by first | (with_reducible assumption) | assumption)
         have y7:b1 < (b2.length:Int):=of_decide_eq_true (by first | (with_reducible assumption) | assumption)
         obtain ⟨C1,H3,r8,r9⟩:=at_T23 (Kd.R_reads' b7.out).2.2 b1 x9 y7
         obtain rfl:b3 = C1:=(by injection H3)
         replace x9:=eq_true x9
         replace y7:=eq_true y7
         refine start_ (n:=16) (S:=fun w'=>w'.cell? (e6.add ((b1).toNat * 2)) = some (.int .i64 ((rd_T23 b8 b1).f0)) ∧ w'.cell? ⟨(e6.add ((b1).toNat * 2)).block,(e6.add ((b1).toNat * 2)).off + 1,none⟩ = some (.int .i64 ((rd_T23 b8 b1).f1)) ∧ w'.cell? (b3.add ((b1).toNat * 2)) = some (.int .i64 ((rd_T23 b2 b1).f0)) ∧ w'.cell? ⟨(b3.add ((b1).toNat * 2)).block,(b3.add ((b1).toNat * 2)).off + 1,none⟩ = some (.int .i64 ((rd_T23 b2 b1).f1))) (ds:=[]) (ba 16 0) (by kernel_rfl) rfl rfl ⟨r6,r7,r8,r9⟩ (fun hHeld=>?_);refine with_tabW numnahlaw07_SharesUp.tab29 numnahlaw07_SharesUp.bits29 (fun HT_ HW_=>?_)
         generalize R0.drew = U3 at b6 b7 b4 d5 d6 d0 d2 HB r6 r7 r8 r9 hHeld ⊢
         refine pq 0 162 1 HT_ ?_
         refine pq 1 163 3 HT_ ?_
         refine pq 2 164 7 HT_ ?_
         refine pq 3 165 15 HT_ ?_
         refine pq 4 166 31 HT_ ?_
         refine pq 5 167 63 HT_ ?_
         refine pq 6 168 127 HT_ ?_
         refine pq 8 170 383 HT_ ?_
         refine pq 9 171 895 HT_ ?_
         refine pq 10 172 1919 HT_ ?_
         refine tq 7 169 2047 HT_ HW_ hHeld ?_
         refine tq 11 173 4095 HT_ HW_ hHeld ?_
         refine oq 12 174 8191 HT_ (fun K hK=>?_)
         refine gq Try.func30 #[.agg #[.int .i64 ((rd_T23 b8 b1).f0),.int .i64 ((rd_T23 b8 b1).f1)],.agg #[.int .i64 ((rd_T23 b2 b1).f0),.int .i64 ((rd_T23 b2 b1).f1)]] ?_
         with_reducible refine (numnahref07_Less.calls ((rd_T23 b8 b1).f0) ((rd_T23 b8 b1).f1) ((rd_T23 b2 b1).f0) ((rd_T23 b2 b1).f1) p8 _ Q9.out).mono ?_
         rintro e U4 ⟨rfl,hb⟩
         have G5:=(hb.cell (World.block_lt_of_cell? _ _ (hHeld.1))).trans (hHeld.1)
         have G6:=(hb.cell (World.block_lt_of_cell? _ _ (hHeld.2.1))).trans (hHeld.2.1)
         have G7:=(hb.cell (World.block_lt_of_cell? _ _ (hHeld.2.2.1))).trans (hHeld.2.2.1)
         have G8:=(hb.cell (World.block_lt_of_cell? _ _ (hHeld.2.2.2))).trans (hHeld.2.2.2)
         refine ⟨_,rfl,?_⟩
         replace b6:=A_ (Kd.S_below (by (with_reducible repeat (first | apply Kd.S_alloc | apply Kd.S_drewN | apply Kd.S_drew));exact b6.out) hb)
         replace b7:=rB b7 hb
         replace b4:=rB b4 hb
         replace d5:=rB d5 hb
         replace d6:=rB d6 hb
         replace d0:=A_ (Kd.C_below (by repeat (first | (with_reducible exact d0.out) | (with_reducible refine Kd.C_alloc ?_ _) | (with_reducible refine Kd.C_drewN ?_ _) | (with_reducible refine Kd.C_drew ?_) | exact d0.out)) hb)
         replace d2:=A_ (Kd.C_below (by repeat (first | (with_reducible exact d2.out) | (with_reducible refine Kd.C_alloc ?_ _) | (with_reducible refine Kd.C_drewN ?_ _) | (with_reducible refine Kd.C_drew ?_) | exact d2.out)) hb)
         replace HB:=bB HB hb
         (try clear hb)
         refine hz hK (fun hHeld=>?_)
         clear hK K
         refine nq 174 ?_
         refine pq 13 175 16383 HT_ ?_
         refine pq 14 176 32767 HT_ ?_
         refine pq 15 16 65535 HT_ ?_
         refine done_ (done_of HT_.out (by kernel_rfl)) ?_
         try go_wp2
         go_roundg k4
         case measure=>have:=s6.out;have:=s7.out;have:=z2.out;have:=z9.out;omega
         case rel=>exact ⟨(p8),(wrap64 (b1 + 1)),(by first | rfl | (simp;done) | (simp [*];done)),(by first | rfl | (simp;done) | (simp [*];done)),H',⟨by have:=s6.out;have:=s7.out;have:=z2.out;have:=z9.out;omega⟩,⟨by (with_reducible repeat (first | apply Kd.S_alloc | apply Kd.S_drewN | apply Kd.S_drew));exact b6.out⟩,⟨by (with_reducible repeat (first | apply Kd.R_alloc | apply Kd.R_drewN | apply Kd.R_drew));exact b7.out⟩,⟨by (with_reducible repeat (first | apply Kd.R_alloc | apply Kd.R_drewN | apply Kd.R_drew));exact b4.out⟩,⟨bl HB⟩⟩
def numnahlaw07_SharesUp.Pure:Prop:=∀ (l0:List Int) (l1:List Int),l0.length ≤ maxLen → l0.length * 8 ≤ 140737488351232 → (∀ x ∈ l0,(Lit.int .i64 x).wf = true) → l1.length ≤ maxLen → l1.length * 8 ≤ 140737488351232 → (∀ x ∈ l1,(Lit.int .i64 x).wf = true) → ∃ k,numnahlaw07_SharesUp.f k l0 l1 = some true
theorem numnahlaw07_SharesUp.walk (P:numnahlaw07_SharesUp.Pure) (a0:Option Addr) (z7 y8:Nat) (z0:List Int) (a1:Option Addr) (z8 y9:Nat) (z1:List Int) (w:World) (w0:(a0 = none ∧ z7 = 0 ∧ y8 = 0 ∧ z0 = []) ∨ ∃ x,a0 = some x ∧ z7 ≤ y8 ∧ y8 ≤ maxLen ∧ z0.length = y8 ∧ (∀ i,i < z0.length → w.cell? (x.add i) = some (.int .i64 (z0.getD i 0))) ∧ ∀ n ∈ z0,(Lit.int .i64 n).wf = true) (y0:z7 * 8 ≤ 140737488351232) (w1:(a1 = none ∧ z8 = 0 ∧ y9 = 0 ∧ z1 = []) ∨ ∃ x,a1 = some x ∧ z8 ≤ y9 ∧ y9 ≤ maxLen ∧ z1.length = y9 ∧ (∀ i,i < z1.length → w.cell? (x.add i) = some (.int .i64 (z1.getD i 0))) ∧ ∀ n ∈ z1,(Lit.int .i64 n).wf = true) (y1:z8 * 8 ≤ 140737488351232) :
  Calls Try.prog 19 #[.slice a0 z7 y8,.slice a1 z8 y9] w fun e w'=>e = .returned (.bool true) ∧ Below w.heap.size w w':=by
 obtain ⟨l0,rfl,H4,R1,R2,H5⟩:=ReadsInt.ofRowC w0
 obtain ⟨l1,rfl,H6,R3,R4,H7⟩:=ReadsInt.ofRowC w1
 obtain ⟨k,h⟩:=P l0 l1 R1 y0 R2 R3 y1 R4
 refine (numnahlaw07_SharesUp.calls k _ _ l0 _ _ l1 true w (Kd.C_of_reads (d:=(0:Int)) (h1:=fun _=>rfl) H4) H5 (Kd.C_of_reads (d:=(0:Int)) (h1:=fun _=>rfl) H6) H7 h rfl).mono ?_
 rintro e w' ⟨rfl,hd⟩
 exact ⟨rfl,hd⟩
end Go.Proofs.Ytjohcjfmlhihbaa.G
set_option linter.unusedSectionVars false
namespace Go.Proofs.Ytjohcjfmlhihbaa.P
open Go Go.RowKit Go.Proofs.Ytjohcjfmlhihbaa.G
open Go.Proofs.YtjohcjfmlhihbaaW.PrintWords Go.Proofs.YtjohcjfmlhihbaaW.PrintMore
theorem mul_le_iff {a b c:Rat} (hc:0 < c):a * c ≤ b * c ↔ a ≤ b:=⟨fun h=>Rat.le_of_mul_le_mul_right h hc,fun h=>Rat.mul_le_mul_of_nonneg_right h (Rat.le_of_lt hc)⟩
theorem div_le_iff2 {a b w v:Rat} (hw:0 < w) (hv:0 < v):a / w ≤ b / v ↔ a * v ≤ b * w:=by
 have e1:a / w * w = a:=Rat.div_mul_cancel (by grind)
 have e2:b / v * v = b:=Rat.div_mul_cancel (by grind)
 rw [← mul_le_iff (a:=a / w) (b:=b / v) (Rat.mul_pos hw hv)]
 have e3:a / w * (w * v) = a * v:=by rw [← Rat.mul_assoc,e1]
 have e4:b / v * (w * v) = b * w:=by rw [Rat.mul_comm w v,← Rat.mul_assoc,e2]
 rw [e3,e4]
theorem num_mul (q:Rat):(q.num:Rat) = q * (q.den:Rat):=by
 have h:=mk_frac q.num q.den
 rw [Rat.mkRat_self] at h
 have hd:(0:Rat) < (q.den:Rat):=Rat.natCast_pos.2 (den_pos q)
 have e:(q.num:Rat) / (q.den:Rat) * (q.den:Rat) = (q.num:Rat):=Rat.div_mul_cancel (by grind)
 rw [← h] at e
 exact e.symm
theorem firstI_some {P:Nat → Bool}:∀ {d i:Nat},(∃ q,i ≤ q ∧ q < i + d ∧ P q = true) → ∃ q,i ≤ q ∧ q < i + d ∧ P q = true ∧ firstI P d i = (q:Int)
 | 0,i,⟨q,h1,h2,_⟩=>by omega
 | d + 1,i,⟨q,h1,h2,h3⟩=>by
  by_cases h:P i = true
  ·exact ⟨i,Nat.le_refl _,by omega,h,by rw [firstI,if_pos h]⟩
  ·have hne:q ≠ i:=fun e=>h (by rw [← e];exact h3)
   obtain ⟨q',a,b,c,e⟩:=firstI_some (P:=P) (d:=d) (i:=i + 1) ⟨q,by omega,by omega,h3⟩
   exact ⟨q',by omega,by omega,c,by rw [firstI,if_neg h];exact e⟩
theorem firstI_none {P:Nat → Bool}:∀ {d i:Nat},(∀ q,i ≤ q → q < i + d → P q = false) → firstI P d i = -1
 | 0,_,_=>rfl
 | d + 1,i,h=>by
  have:=h i (Nat.le_refl _) (by omega)
  rw [firstI,this,if_neg (by decide)]
  exact firstI_none fun q h1 h2=>h q (by omega) (by omega)
theorem q_rate {q:Rat} (h0:0 ≤ q) (h:Sm 1000000 100 q):rateS (encQ q):=by
 have h1:=h.num
 have h2:=h.den
 have hp:=den_pos q
 have h3:=Rat.num_nonneg.2 h0
 refine ⟨?_,?_,h3,?_,gcd_one q⟩
 ·show 1 ≤ (q.den:Int);omega
 ·show (q.den:Int) ≤ 100;omega
 ·show q.num ≤ 1000000;omega
theorem q_inS {q:Rat} (h:Sm 1000000 100 q):inS (encQ q):=by
 have h1:=h.num
 have h2:=h.den
 refine ⟨⟨?_,?_⟩,⟨?_,?_⟩⟩
 ·show _ ≤ q.num;omega
 ·show q.num ≤ _;omega
 ·show _ ≤ (q.den:Int);omega
 ·show (q.den:Int) ≤ _;omega
section
variable {p:List Int} {u:List S45} (hN:IsN p u) {x:List Rat} (hx:FairR p u x)
include hN hx
theorem fair_held {i:Nat} (hi:i < u.length):∃ q,q < p.length ∧ holdsB (netOf p u) (rt x) q i = true ∧ heldI p u x i = (q:Int):=by
 obtain ⟨q,hq⟩:=hx.fair.2 i hi
 obtain ⟨q',a,b,c,e⟩:=firstI_some (P:=fun q=>holdsB (netOf p u) (rt x) q i) (d:=p.length) (i:=0) ⟨q,Nat.zero_le _,by have:=hq.1;show q < 0 + p.length;rw [Nat.zero_add];exact this,(holdsB_iff _ _ _ _).2 hq⟩
 exact ⟨q',by omega,c,e⟩
theorem fair_hI:allF (hI p u x (tab u.length (heldI p u x))) u.length 0 = true:=by
 rw [allF_iff]
 intro i _ hi
 have hil:i < u.length:=by omega
 obtain ⟨q,h1,h2,h3⟩:=fair_held hN hx hil
 unfold hI
 rw [tab_I hil,h3,decide_eq_true (by omega),Int.toNat_natCast,h2];rfl
theorem fair_fit:∀ q ∈ x,0 ≤ q ∧ Sm 1073741824 1073741824 q:=by
 obtain ⟨D,d0,dD,hb⟩:=hx.bd
 intro q hq
 obtain ⟨i,hi,rfl⟩:=List.getElem_of_mem hq
 obtain ⟨a,b,c⟩:=hb i (by have:=hx.len;omega)
 rw [rt_get hi] at a b c
 have hd:x[i].den ≤ 2949120:=Nat.le_trans (Nat.le_of_dvd d0 c) dD
 have z:(0:Rat) ≤ ((200:Nat):Rat):=Rat.natCast_nonneg
 have h5:=num_bound (B:=200) (by grind) b
 have:200 * x[i].den ≤ 200 * 2949120:=Nat.mul_le_mul_left _ hd
 exact ⟨a,⟨by omega,by omega⟩⟩
end
section
variable {p:List Int} {u:List S45} (hN:IsN p u) {x y:List Rat} (hx:FairR p u x) (hl:y.length = u.length) (hy:∀ q ∈ y,0 ≤ q ∧ Sm 1000000 100 q)
include hN hx hl hy
theorem held_iff (hpos:(netOf p u).Possible (rt y)):(firstI (unheld p u y) u.length 0 = -1) ↔ y = x:=by
 constructor
 ·intro h
  have hall:∀ v,v < u.length → unheld p u y v = false:=by
   intro v hv
   cases hu:unheld p u y v
   ·rfl
   ·obtain ⟨q,_,_,_,e⟩:=firstI_some (P:=unheld p u y) (d:=u.length) (i:=0) ⟨v,Nat.zero_le _,by omega,hu⟩
    rw [e] at h;omega
  have hf:(netOf p u).Fair (rt y):=by
   refine ⟨hpos,fun v hv=>?_⟩
   have:=hall v hv
   apply Classical.byContradiction
   intro hno
   have e:firstI (fun q=>holdsB (netOf p u) (rt y) q v) p.length 0 = -1:=firstI_none fun q _ _=>by
    rw [← Bool.not_eq_true,holdsB_iff]
    exact fun h=>hno ⟨q,h⟩
   unfold unheld at this
   rw [e] at this
   exact absurd this (by decide)
  have hu:=Net.unique (wpos hN) hf hx.fair
  apply List.ext_getElem
  ·rw [hl,hx.len]
  ·intro i h1 h2
   have:=hu i (by show i < u.length;omega)
   rwa [rt_get h1,rt_get h2] at this
 ·rintro rfl
  refine firstI_none fun v _ hv=>?_
  obtain ⟨q,_,_,e⟩:=fair_held hN hx (show v < u.length by omega)
  unfold unheld
  have e':firstI (fun q=>holdsB (netOf p u) (rt y) q v) p.length 0 = (q:Int):=e
  rw [e',decide_eq_false (by omega)]
theorem up_below {i j:Nat} (hi:i < u.length) (hj:j < u.length):(wrap64 (wrap64 ((rt x j).num * ((rt x i).den:Int)) * (rd_T45 u (i:Int)).f0) ≤ wrap64 (wrap64 ((rt x i).num * ((rt x j).den:Int)) * (rd_T45 u (j:Int)).f0)) ↔ rt x j / (netOf p u).w j ≤ rt x i / (netOf p u).w i:=by
 obtain ⟨D,d0,dD,hb⟩:=hx.bd
 have bd:∀ v,v < u.length → (rt x v).num.natAbs ≤ 589824000 ∧ (rt x v).den ≤ 2949120:=fun v hv=>by
  obtain ⟨a,b,c⟩:=hb v hv
  have hd:(rt x v).den ≤ 2949120:=Nat.le_trans (Nat.le_of_dvd d0 c) dD
  have z:(0:Rat) ≤ ((200:Nat):Rat):=Rat.natCast_nonneg
  have h5:=num_bound (B:=200) (by grind) b
  have:200 * (rt x v).den ≤ 200 * 2949120:=Nat.mul_le_mul_left _ hd
  exact ⟨by omega,hd⟩
 obtain ⟨_,ei,_,wi⟩:=w_nat hN hi
 obtain ⟨_,ej,_,wj⟩:=w_nat hN hj
 have one:∀ {a b:Nat} {c:Nat},a < u.length → b < u.length → c ≤ 4 → ∀ {w:Int},w = (c:Int) → wrap64 (wrap64 ((rt x a).num * ((rt x b).den:Int)) * w) = (rt x a).num * ((rt x b).den:Int) * w:=fun {a b c} ha hb hc {w} hw=>by
  have h1:((rt x a).num * ((rt x b).den:Int)).natAbs ≤ 589824000 * 2949120:=by
   rw [Int.natAbs_mul,Int.natAbs_natCast];exact Nat.mul_le_mul (bd a ha).1 (bd b hb).2
  have h2:((rt x a).num * ((rt x b).den:Int) * w).natAbs ≤ 589824000 * 2949120 * 4:=by
   rw [Int.natAbs_mul,hw,Int.natAbs_natCast];exact Nat.mul_le_mul h1 hc
  have e:wrap64 ((rt x a).num * ((rt x b).den:Int)) = (rt x a).num * ((rt x b).den:Int):=wrap_abs (Nat.lt_of_le_of_lt h1 (by decide))
  rw [e]
  exact wrap_abs (Nat.lt_of_le_of_lt h2 (by decide))
 rw [one hj hi wi ei,one hi hj wj ej]
 have pi:=wpos hN i hi
 have pj:=wpos hN j hj
 have key:rt x j / (netOf p u).w j ≤ rt x i / (netOf p u).w i ↔ rt x j * (netOf p u).w i ≤ rt x i * (netOf p u).w j:=div_le_iff2 pj pi
 rw [key,← int_rat_le]
 push_cast
 have di:(0:Rat) < ((rt x i).den:Rat):=Rat.natCast_pos.2 (den_pos _)
 have dj:(0:Rat) < ((rt x j).den:Rat):=Rat.natCast_pos.2 (den_pos _)
 have ni:((rt x i).num:Rat) = rt x i * ((rt x i).den:Rat):=num_mul _
 have nj:((rt x j).num:Rat) = rt x j * ((rt x j).den:Rat):=num_mul _
 have hdd:(0:Rat) < ((rt x i).den:Rat) * ((rt x j).den:Rat):=Rat.mul_pos di dj
 rw [ni,nj]
 have e1:rt x j * ((rt x j).den:Rat) * ((rt x i).den:Rat) * (((rd_T45 u (i:Int)).f0:Int):Rat) = (rt x j * (netOf p u).w i) * (((rt x i).den:Rat) * ((rt x j).den:Rat)):=by
  show _ = (rt x j * (((rd_T45 u (i:Int)).f0:Int):Rat)) * _
  grind
 have e2:rt x i * ((rt x i).den:Rat) * ((rt x j).den:Rat) * (((rd_T45 u (j:Int)).f0:Int):Rat) = (rt x i * (netOf p u).w j) * (((rt x i).den:Rat) * ((rt x j).den:Rat)):=by
  show _ = (rt x i * (((rd_T45 u (j:Int)).f0:Int):Rat)) * _
  grind
 rw [e1,e2]
 exact mul_le_iff hdd
theorem up_bd {i:Nat} (hi:i < u.length):(rt x i).num.natAbs ≤ 589824000 ∧ (rt x i).den ≤ 2949120 ∧ (rt y i).num.natAbs ≤ 1000000 ∧ (rt y i).den ≤ 100:=by
 obtain ⟨D,d0,dD,hb⟩:=hx.bd
 obtain ⟨a,b,c⟩:=hb i hi
 have hd:(rt x i).den ≤ 2949120:=Nat.le_trans (Nat.le_of_dvd d0 c) dD
 have z:(0:Rat) ≤ ((200:Nat):Rat):=Rat.natCast_nonneg
 have h5:=num_bound (B:=200) (by grind) b
 have:200 * (rt x i).den ≤ 200 * 2949120:=Nat.mul_le_mul_left _ hd
 have h6:=rt_ok hN hl hy i hi
 exact ⟨by omega,hd,h6.2.num,h6.2.den⟩
theorem up_l2 {i:Nat} (hi:i < u.length) (hnext:Ev (fun k=>numnahlaw07_SharesUp.l1 k u (encL x) (encL y) ((i + 1:Nat):Int)) true):∀ d j (b:Bool),j + d = u.length → (b = true ∨ ∃ v,j ≤ v ∧ v < u.length ∧ rt x v / (netOf p u).w v ≤ rt x i / (netOf p u).w i ∧ rt y v < rt x v) → Ev (fun k=>numnahlaw07_SharesUp.l2 k u (encL x) (encL y) (i:Int) b (j:Int)) true:=by
 intro d
 have h6:=hN.u6
 have hxl:=hx.len
 induction d with
 | zero =>
  intro j b hj hb
  have hbt:b = true:=by
   rcases hb with h | ⟨v,h1,h2,_⟩
   ·exact h
   ·omega
  subst hbt
  refine Ev.step (fun k=>?_) hnext
  rw [numnahlaw07_SharesUp.l2,if_neg (by omega),if_pos rfl,wrap_succ (by omega)]
 | succ d ih =>
  intro j b hj hb
  have hjl:j < u.length:=by omega
  have start:∀ k,numnahlaw07_SharesUp.l2 (k + 1) u (encL x) (encL y) (i:Int) b (j:Int) = if b = true then numnahlaw07_SharesUp.l2 k u (encL x) (encL y) (i:Int) true ((j + 1:Nat):Int) else if wrap64 (wrap64 ((rt x j).num * ((rt x i).den:Int)) * (rd_T45 u (i:Int)).f0) ≤ wrap64 (wrap64 ((rt x i).num * ((rt x j).den:Int)) * (rd_T45 u (j:Int)).f0) then (numnahref07_Less.f (rt y j).num ((rt y j).den:Int) (rt x j).num ((rt x j).den:Int)).bind fun t=>numnahlaw07_SharesUp.l2 k u (encL x) (encL y) (i:Int) t ((j + 1:Nat):Int) else numnahlaw07_SharesUp.l2 k u (encL x) (encL y) (i:Int) false ((j + 1:Nat):Int):=by
   intro k
   rw [numnahlaw07_SharesUp.l2,if_pos (by omega),if_pos (by omega),if_pos (by rw [encL_length];omega),if_pos (by omega),if_pos (by rw [encL_length];omega),if_pos (by omega),if_pos (show (j:Int) < ((encL y).length:Int) by rw [encL_length];omega),encT (by omega),encT (by omega),encT (by omega),wrap_succ (by omega)]
   rfl
  refine Ev.step start ?_
  cases b with
  | true=>exact Ev.congr (fun k=>if_pos rfl) (ih (j + 1) true (by omega) (.inl rfl))
  | false =>
   refine Ev.congr (fun k=>if_neg (by decide)) ?_
   obtain ⟨v,v1,v2,v3,v4⟩:=hb.resolve_left (by decide)
   by_cases hbel:rt x j / (netOf p u).w j ≤ rt x i / (netOf p u).w i
   ·refine Ev.congr (fun k=>if_pos ((up_below hN hx hl hy hi hjl).2 hbel)) ?_
    have hb2:=up_bd hN hx hl hy hjl
    have hf:Fits (rt y j) (rt x j):=fits_of hb2.2.2.1 hb2.2.2.2 hb2.1 hb2.2.1 (by decide) (by decide)
    refine Ev.congr (fun k=>congrArg (fun z=>Option.bind z _) (rless hf)) ?_
    refine ih (j + 1) (decide (rt y j < rt x j)) (by omega) ?_
    by_cases hlt:rt y j < rt x j
    ·exact .inl (decide_eq_true hlt)
    ·have hne:v ≠ j:=fun e=>hlt (by rw [← e];exact v4)
     exact .inr ⟨v,by omega,v2,v3,v4⟩
   ·refine Ev.congr (fun k=>if_neg (fun h=>hbel ((up_below hN hx hl hy hi hjl).1 h))) ?_
    have hne:v ≠ j:=fun e=>hbel (by rw [← e];exact v3)
    exact ih (j + 1) false (by omega) (.inr ⟨v,by omega,v2,v3,v4⟩)
theorem up_l1 (hpos:(netOf p u).Possible (rt y)):∀ d i,i + d = u.length → Ev (fun k=>numnahlaw07_SharesUp.l1 k u (encL x) (encL y) (i:Int)) true:=by
 intro d
 have h6:=hN.u6
 have hxl:=hx.len
 induction d with
 | zero =>
  intro i hi
  refine Ev.step (f:=fun k=>(numnahlaw07_awake.f k).bind fun t=>some t) (fun k=>?_) (Ev.bind ev_awake (Ev.now _))
  rw [numnahlaw07_SharesUp.l1,if_neg (by omega)]
 | succ d ih =>
  intro i hi
  have hil:i < u.length:=by omega
  have hb:=up_bd hN hx hl hy hil
  have hf:Fits (rt x i) (rt y i):=fits_of hb.1 hb.2.1 hb.2.2.1 hb.2.2.2 (by decide) (by decide)
  have hn:=ih (i + 1) (by omega)
  have start:∀ k,numnahlaw07_SharesUp.l1 (k + 1) u (encL x) (encL y) (i:Int) = (numnahref07_Less.f (rt x i).num ((rt x i).den:Int) (rt y i).num ((rt y i).den:Int)).bind fun t=>if t = true then numnahlaw07_SharesUp.l2 k u (encL x) (encL y) (i:Int) false 0 else numnahlaw07_SharesUp.l1 k u (encL x) (encL y) ((i + 1:Nat):Int):=by
   intro k
   rw [numnahlaw07_SharesUp.l1,if_pos (by omega),if_pos (by omega),if_pos (by rw [encL_length];omega),if_pos (by rw [encL_length];omega),encT (by omega),encT (by omega),wrap_succ (by omega)]
   rfl
  refine Ev.step start (Ev.congr (fun k=>congrArg (fun z=>Option.bind z _) (rless hf)) ?_)
  by_cases hlt:rt x i < rt y i
  ·refine Ev.congr (fun k=>if_pos (decide_eq_true hlt)) ?_
   obtain ⟨q,hq⟩:=hx.fair.2 i hil
   obtain ⟨v,v1,_,v3,v4⟩:=Net.less hpos hq hil hlt
   exact up_l2 hN hx hl hy hil hn u.length 0 false (by omega) (.inr ⟨v,Nat.zero_le _,v1,v4,v3⟩)
  ·exact Ev.congr (fun k=>if_neg (by rw [decide_eq_false hlt];decide)) hn
end
section
variable {p:List Int} {u:List S45} (hok:okNet p u = true) (hul:∀ a ∈ u,a.f1.length ≤ 1000000) {x:List Rat} (hx:FairR p u x)
include hok hul hx
theorem ev_Check_fair:Ev (fun k=>shares_Check.f k p u (encL x) (tab u.length (heldI p u x))) 0:=by
 have hN:=isN hok
 have h5:=hN.p5
 have h6:=hN.u6
 have hxl:=hx.len
 have e0:=ev_newNet (p:=p) (u:=u) (by omega) (by omega) (by unfold H.fitL;omega) hul
 rw [hok] at e0
 obtain ⟨x',hx',e1,_⟩:=fair_both hN
 rw [← hx.eq hN hx'] at e1
 have e4:=ev_slEq (a:=encL x) (b:=encL x) (by rw [encL_length];omega)
 rw [decide_eq_true rfl] at e4
 have hc:=check_l0 hN (hx.ok hN) (h:=tab u.length (heldI p u x)) (tab_length _ _) u.length 0 (by omega)
 rw [if_pos (fair_hI hN hx)] at hc
 unfold shares_Check.f
 refine Ev.bind e0 (Ev.bind e1 (Ev.bind e4 (Ev.congr (fun k=>if_pos rfl) ?_)))
 refine Ev.step (fun k=>?_) hc
 rw [shares_Check.j0,if_neg (by rw [tab_length];simp)];rfl
theorem ev_Better {y:List Rat} (hl:y.length = u.length) (hy:∀ q ∈ y,0 ≤ q ∧ Sm 1000000 100 q):Ev (fun k=>shares_Better.f k p u (encL y)) (if allF (fun q=>decide ((netOf p u).load (rt y) q ≤ (netOf p u).cap q)) p.length 0 = true then (firstI (unheld p u y) u.length 0,0) else (0,10)):=by
 have hN:=isN hok
 have h5:=hN.p5
 have h6:=hN.u6
 have e0:=ev_newNet (p:=p) (u:=u) (by omega) (by omega) (by unfold H.fitL;omega) hul
 rw [hok] at e0
 have e2:=ev_areRates (p:=p) (u:=u) (w:=encL y) (by rw [encL_length];omega) (fun a ha=>by
  obtain ⟨q,hq,rfl⟩:=List.mem_map.1 ha
  exact q_inS (hy q hq).2)
 rw [decide_eq_true ⟨by rw [encL_length];exact hl,fun a ha=>by
  obtain ⟨q,hq,rfl⟩:=List.mem_map.1 ha
  exact q_rate (hy q hq).1 (hy q hq).2⟩] at e2
 have hlen:(encL ((List.range p.length).map fun q=>(netOf p u).load (rt y) q)).length = p.length:=by rw [encL_length,List.length_map,List.length_range]
 unfold shares_Better.f
 refine Ev.bind e0 (Ev.bind e2 (Ev.bind (ev_loads hN hl hy) ?_))
 rw [hlen]
 exact better_l0 hN hl hy p.length 0 (by omega)
theorem up_end (y:List Rat) (hl:y.length = u.length) (hy:∀ q ∈ y,0 ≤ q ∧ Sm 1000000 100 q) (l:List Int):Ev (fun k=>numnahlaw07_SharesUp.l0 k l p u (encL x) (tab u.length (heldI p u x)) (encL y) (u.length:Int)) true:=by
 have hN:=isN hok
 have h6:=hN.u6
 have hxl:=hx.len
 have aw:Ev (fun k=>(numnahlaw07_awake.f k).bind fun t=>some t) true:=Ev.bind ev_awake (Ev.now _)
 refine Ev.step (fun k=>by rw [numnahlaw07_SharesUp.l0,if_neg (by omega)]) (Ev.bind (ev_Check_fair hok hul hx) (Ev.congr (fun k=>if_pos rfl) (Ev.bind (ev_Better hok hul hx hl hy) ?_)))
 have hp:=ev_possible hN hl hy
 by_cases hall:allF (fun q=>decide ((netOf p u).load (rt y) q ≤ (netOf p u).cap q)) p.length 0 = true
 ·rw [if_pos hall]
  have hpos:(netOf p u).Possible (rt y):=fun q hq=>by
   rw [allF_iff] at hall
   exact of_decide_eq_true (hall q (Nat.zero_le _) (by rw [Nat.zero_add];exact hq))
  refine Ev.congr (fun k=>if_pos rfl) ?_
  have e5:=ev_same (a:=encL y) (b:=encL x) (by rw [encL_length];omega)
  refine Ev.bind e5 ?_
  have hiff:=held_iff hN hx hl hy hpos
  have e:((firstI (unheld p u y) u.length 0 == -1) != decide (encL y = encL x)) = false:=by
   have h2:(encL y = encL x) ↔ y = x:=⟨encL_inj,fun h=>by rw [h]⟩
   by_cases hyx:y = x
   ·rw [hiff.2 hyx,decide_eq_true (h2.2 hyx)];rfl
   ·rw [decide_eq_false (fun h=>hyx (h2.1 h)),beq_eq_false_iff_ne.2 (fun h=>hyx (hiff.1 h))];rfl
  refine Ev.congr (fun k=>if_neg (by rw [e];decide)) ?_
  exact up_l1 hN hx hl hy hpos u.length 0 (by omega)
 ·rw [if_neg hall]
  have hall':allF (fun q=>decide ((netOf p u).load (rt y) q ≤ (netOf p u).cap q)) p.length 0 = false:=by simpa using hall
  rw [hall'] at hp
  exact Ev.congr (fun k=>if_neg (by decide)) (Ev.congr (fun k=>if_pos rfl) (Ev.bind hp (Ev.congr (fun k=>if_neg (by decide)) aw)))
theorem up_l0 (l:List Int):∀ d i (y:List Rat),i + d = u.length → y.length = i → (∀ q ∈ y,0 ≤ q ∧ Sm 1000000 100 q) → Ev (fun k=>numnahlaw07_SharesUp.l0 k l p u (encL x) (tab u.length (heldI p u x)) (encL y) (i:Int)) true:=by
 intro d
 have hN:=isN hok
 have h6:=hN.u6
 induction d with
 | zero =>
  intro i y hi hl hy
  obtain rfl:i = u.length:=by omega
  exact up_end hok hul hx y hl hy l
 | succ d ih =>
  intro i y hi hl hy
  have hil:i < u.length:=by omega
  have nxt:∀ t:Int,0 ≤ t → t < 801 → Ev (fun k=>numnahref07_Reduced.f k t 4) ((mkRat t 4).num,((mkRat t 4).den:Int)) ∧ Ev (fun k=>numnahlaw07_SharesUp.l0 k l p u (encL x) (tab u.length (heldI p u x)) (encL y ++ [(⟨(mkRat t 4).num,((mkRat t 4).den:Int)⟩:S23)]) ((i + 1:Nat):Int)) true:=by
   intro t t0 t1
   have h:=ev_frac t 4 (by decide) (by omega) (by decide)
   refine ⟨Ev.congr (fun k=>ref_reduced k t 4) h,?_⟩
   have h1:=num_le t 4
   have h2:=den_le (n:=t) (d:=4) (by omega)
   have hn:=ih (i + 1) (y ++ [mkRat t 4]) (by omega) (by rw [List.length_append,hl];rfl) (fun q hq=>by
    rcases List.mem_append.1 hq with hq | hq
    ·exact hy q hq
    ·rw [List.mem_singleton.1 hq]
     refine ⟨?_,⟨by omega,by omega⟩⟩
     rw [mk_frac,Rat.div_def]
     refine Rat.mul_nonneg ?_ ?_
     ·have:=cast_le t0;simpa using this
     ·exact Rat.le_of_lt (Rat.inv_pos.2 (by decide)))
   have e:encL (y ++ [mkRat t 4]) = encL y ++ [(⟨(mkRat t 4).num,((mkRat t 4).den:Int)⟩:S23)]:=by unfold encL;rw [List.map_append];rfl
   rw [e] at hn
   exact hn
  have hlen:(encL y).length < 8796093022208:=by rw [encL_length];omega
  by_cases hlt:i < l.length
  ·obtain ⟨t,t0,t1,ht⟩:=mod_some (rd l (i:Int)) (n:=801) (by decide) (by decide)
   obtain ⟨a1,a2⟩:=nxt t t0 t1
   refine Ev.step (fun k=>by rw [numnahlaw07_SharesUp.l0,if_pos (by omega),if_pos (by omega),if_pos (by omega),ht,Option.bind_some,wrap_succ (by omega)]) (Ev.bind a1 (Ev.congr (fun k=>if_pos hlen) a2))
  ·obtain ⟨a1,a2⟩:=nxt 0 (by decide) (by decide)
   refine Ev.step (fun k=>by rw [numnahlaw07_SharesUp.l0,if_pos (by omega),if_neg (by omega),wrap_succ (by omega)]) (Ev.bind a1 (Ev.congr (fun k=>if_pos hlen) a2))
end
theorem up_pure (l0 l1:List Int):∃ k,numnahlaw07_SharesUp.f k l0 l1 = some true:=by
 refine Ev.rounds ?_
 unfold numnahlaw07_SharesUp.f
 obtain ⟨p,u,hok,hul,e0⟩:=ev_plant l0
 have hN:=isN hok
 have h5:=hN.p5
 have h6:=hN.u6
 obtain ⟨x,hx,e1,_⟩:=ev_Fair hok (by omega) (by omega) (by unfold H.fitL;omega) hul
 have hxl:=hx.len
 have ef:=ev_fit (x:=x) (by omega) (fair_fit hN hx)
 have c1:((encL x).length:Int) = (u.length:Int):=by rw [encL_length,hxl]
 have c2:((tab u.length (heldI p u x)).length:Int) = (u.length:Int):=by rw [tab_length]
 refine Ev.bind e0 (Ev.bind e1 (Ev.congr (fun k=>if_pos rfl) (Ev.congr (fun k=>if_pos c1) (Ev.congr (fun k=>if_pos c2) (Ev.bind ef ?_)))))
 refine Ev.step (fun k=>?_) (up_l0 hok hul hx l1 u.length 0 [] (by omega) rfl (fun q hq=>by cases hq))
 rw [numnahlaw07_SharesUp.j0,if_neg (by decide)];rfl
theorem up_Pure:numnahlaw07_SharesUp.Pure:=fun l0 l1 _ _ _ _ _ _=>up_pure l0 l1
end Go.Proofs.Ytjohcjfmlhihbaa.P
namespace Go.Proofs.YtjohcjfmlhihbaaW.PrintWords
open Go.ChangeShapes Go.WideShapes
theorem sized_ints {H:Type} {enc:TypeId × Value → H} {P:Program} {W:World} {base:Nat} {spare:Nat → Bool} {held:Bool} {t e:TypeId} {k:IntKind} {a:Option Addr} {len cap:Nat} {d:DataW H} {ps:List MemPlace} {ts:List TypeId} {ds:List (DataW H)} {j:Nat}
  (hsz:(DataW.weightsEach P ts ds).all (· ≤ reachBytes) = true) (ht:ts[j]? = some t) (hd:ds[j]? = some d) (hu:P.underlying t = some (.slice e)) (he:P.underlying e = some (.int k)) (hc:P.cellsOf e = 1) {B:Nat} (hB:P.bytesOf e = B)
  (h:DataW.Trod enc P W base spare held t (.slice a len cap) d ps):len * B ≤ 140737488351232:=by
 obtain ⟨fuel,hf⟩:=h
 rcases open_ints hu he hc hf with ⟨hcs,_⟩ | ⟨x,l,c,zs,hcs,_,hl,_,hz,hx,_,_⟩
 ·simp [Value.cells] at hcs
  obtain ⟨rfl,rfl,rfl⟩:=hcs
  simp
 ·simp [Value.cells] at hcs
  obtain ⟨rfl,rfl,rfl⟩:=hcs
  obtain ⟨hx,_⟩:=Prod.mk.inj hx
  subst hx
  have z:=sized_slice hsz ht hd hu
  rw [hB] at z
  have hl2:len ≤ zs.length:=by
   rw [hz]
   split
   ·exact hl
   ·exact Nat.le_refl _
  have h1:(lits (H:=H) k (zs.take len)).length + (lits (H:=H) k (zs.drop len)).length = zs.length:=by
   simp [lits]
   omega
  rw [h1] at z
  exact Nat.le_trans (Nat.mul_le_mul_right _ hl2) z
end Go.Proofs.YtjohcjfmlhihbaaW.PrintWords
