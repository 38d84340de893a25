/- Several texts, joined. -/
import Derived.WalkKit
import Derived.KernelRfl
import Derived.Test.YtjohcjfmlhihbaaProg
import Derived.Test.YtjohcjfmlhihbaaQFairs1
set_option linter.unusedVariables false
set_option linter.unusedSimpArgs false
namespace Go.Proofs.Ytjohcjfmlhihbaa.G
open Go.RowKit Go.Proofs.YtjohcjfmlhihbaaW.PrintWords Go.Proofs.YtjohcjfmlhihbaaW.PrintLast Go.Proofs.YtjohcjfmlhihbaaW.PrintMore
set_option maxHeartbeats 8000000
set_option maxRecDepth 100000
attribute [local go_sem] cond_true cond_false fld23_0 fld23_1 fld45_0 fld45_1 fld109_0 fld109_1 fld94_0 fld94_1 max2_int min2_int max_two min_two max_three min_three max_four min_four
def shares_net_fair_1.l0:Nat → Int → Int → Int → Int → List Int → List (S45) → List Bool → List (S23) → Int → Int → Option (Int × Int × Bool)
 | 0,_,_,_,_,_,_,_,_,_,_=>none
 | k + 1,x0,x8,p8,m2,h9,e1,h1,e2,i0,i1=>if m2 < p8 then ((shares_net_has.f k h9 e1 m2 x0).bind fun m6=>(if m6 = true then (if 0 ≤ m2 then (if m2 < (h1.length:Int) then (if rdOf false h1 m2 = true then (if m2 < (e2.length:Int) then ((shares_minus.f k i0 i1 ((rd_T23 e2 m2).f0) ((rd_T23 e2 m2).f1)).bind fun h4=>(shares_net_fair_1.l0 k x0 x8 p8 (wrap64 (m2 + 1)) h9 e1 h1 e2 h4.1 h4.2)) else (none)) else (if m2 < (e1.length:Int) then (shares_net_fair_1.l0 k x0 (wrap64 (x8 + ((rd_T45 e1 m2).f0))) p8 (wrap64 (m2 + 1)) h9 e1 h1 e2 i0 i1) else (none))) else (none)) else (none)) else (shares_net_fair_1.l0 k x0 x8 p8 (wrap64 (m2 + 1)) h9 e1 h1 e2 i0 i1))) else (if x8 = 0 then (some (0,0,false)) else ((shares_over.f k i0 i1 x8).bind fun m7=>(some (m7.1,m7.2,true))))
def shares_net_fair_1.f (k:Nat) (a0:Int) (d0:List Int) (b8:List (S45)) (l2:List Bool) (l3:List (S23)):Option (Int × Int × Bool):=if 0 ≤ a0 then (if a0 < (d0.length:Int) then ((shares_whole.f (rd d0 a0)).bind fun i8=>(shares_net_fair_1.l0 k a0 0 (b8.length:Int) 0 d0 b8 l2 l3 i8.1 i8.2)) else (none)) else (none)
theorem shares_net_fair_1.mono_l:∀ k,(∀ y0 y1 y2 y3 y4 y5 y6 y7 y8 y9,LeO (shares_net_fair_1.l0 k y0 y1 y2 y3 y4 y5 y6 y7 y8 y9) (shares_net_fair_1.l0 (k + 1) y0 y1 y2 y3 y4 y5 y6 y7 y8 y9))
 | 0=>fun _ _ _ _ _ _ _ _ _ _ r h=>by simp [shares_net_fair_1.l0] at h
 | k + 1=>by
  have C6:=shares_net_fair_1.mono_l k
  intro y0 y1 y2 y3 y4 y5 y6 y7 y8 y9
  unfold shares_net_fair_1.l0
  repeat' first
  | (with_reducible first | exact C6 _ _ _ _ _ _ _ _ _ _ | exact shares_minus.mono _ _ _ _ _ | exact shares_net_has.mono _ _ _ _ _ | exact shares_over.mono _ _ _ _ | exact LeO.refl _ | exact LeO.none _ | refine LeO.ite ?_ ?_ | refine LeO.bind ?_ (fun _=>?_))
  | exact LeO.none _ | refine LeO.ite ?_ ?_ | refine LeO.bind ?_ (fun _=>?_)
theorem shares_net_fair_1.mono:∀ a0 a1 a2 a3 a4 k,LeO (shares_net_fair_1.f k a0 a1 a2 a3 a4) (shares_net_fair_1.f (k + 1) a0 a1 a2 a3 a4):=by
 intro a0 a1 a2 a3 a4 k
 have C6:=shares_net_fair_1.mono_l k
 unfold shares_net_fair_1.f
 repeat' first
   | (with_reducible first | exact C6 _ _ _ _ _ _ _ _ _ _ | exact shares_minus.mono _ _ _ _ _ | exact shares_net_has.mono _ _ _ _ _ | exact shares_over.mono _ _ _ _ | exact LeO.refl _ | exact LeO.none _ | refine LeO.ite ?_ ?_ | refine LeO.bind ?_ (fun _=>?_))
   | exact LeO.none _ | refine LeO.ite ?_ ?_ | refine LeO.bind ?_ (fun _=>?_)
theorem shares_net_fair_1.calls (k:Nat) (a0:Int) (n3:Option Addr) (h6:Nat) (d0:List Int) (h7:Option Addr) (h8:Nat) (b8:List (S45)) (A2:Option Addr) (c2:Nat) (l2:List Bool) (A3:Option Addr) (c3:Nat) (l3:List (S23)) (r1:Int) (r2:Int) (r3:Bool) (w:World) (d3 i4 h5:Nat) (D7:w.heap[d3]? = some (.cells #[.slice n3 d0.length h6,.slice h7 b8.length h8] 109 (0,0))) (D8:w.heap[i4]? = some (.cells #[.slice A2 l2.length c2] 115 (0,0))) (D9:w.heap[h5]? = some (.cells #[.slice A3 l3.length c3] 35 (0,0))) (C7:d3 ≠ i4) (C8:d3 ≠ h5) (C9:i4 ≠ h5) (m8:Kd.C (Kd.int .i64) w n3 d0.length d0) (m9:d0.length ≤ h6) (n0:Kd.C k45 w h7 b8.length b8) (n1:b8.length ≤ h8) (E0:Kd.C Kd.bool w A2 l2.length l2) (E1:l2.length ≤ c2) (E2:Kd.C k23 w A3 l3.length l3) (E3:l3.length ≤ c3) (h:shares_net_fair_1.f k a0 d0 b8 l2 l3 = some (r1,r2,r3)) :
  Calls Try.prog 103 #[.int .i64 a0,.pointer (some ⟨d3,0,none⟩),.pointer (some ⟨i4,0,none⟩),.pointer (some ⟨h5,0,none⟩)] w fun e w'=>e = .returned (.tuple #[.agg #[.int .i64 r1,.int .i64 r2],.bool r3]) ∧ Below w.heap.size w w':=by
 have E4:=Try.underlying109
 have O2:=Try.underlying23
 have b1:=A_ D7
 have b7:=A_ D8
 have b4:=A_ D9
 have e3:=A_ C7
 have e4:=A_ C7.symm
 have e5:=A_ C8
 have e6:=A_ C8.symm
 have i6:=A_ C9
 have i7:=A_ C9.symm
 clear D7 D8 D9 C7 C8 C9
 have j7:=A_ m8
 have m3:=A_ m9
 clear m8 m9
 have j8:=A_ n0
 have m4:=A_ n1
 clear n0 n1
 have E5:=A_ E0
 have P1:=A_ E1
 clear E0 E1
 have O3:=A_ E2
 have P2:=A_ E3
 clear E2 E3
 have HB:=A_ (Below.refl w.heap.size w)
 have H:(if 0 ≤ a0 then (if a0 < (d0.length:Int) then ((shares_whole.f (rd d0 a0)).bind fun i8=>(shares_net_fair_1.l0 k a0 0 (b8.length:Int) 0 d0 b8 l2 l3 i8.1 i8.2)) else (none)) else (none)) = some (r1,r2,r3):=h
 clear h
 by_cases c5:0 ≤ a0
 case neg =>
  rw [if_neg c5] at H
  exact absurd H (by simp)
 rw [if_pos c5] at H
 have O4:=decide_eq_true c5
 clear c5
 replace H:=gd H
 obtain ⟨c6,H⟩:=H
 have O5:=decide_eq_true c6
 clear c6
 replace H:=Option.bind_eq_some_iff.mp H
 obtain ⟨⟨n4,o7⟩,A70,H⟩:=H
 dsimp only at H
 have A7:=A_ A70
 clear A70
 have H':=A_ H
 clear H
 go_enter Try.func103,Try.ntmps103
 go_wp2_with (first | ((with_reducible refine gate_dst (N:=5) rfl ?_);refine bx 5 #[.int .i64 0,.int .i64 0] 23 ?_;intro i5 hg E6 hbox hb;have b5:=A_ hbox;have o8:=gw hg HB;have E7:=o8;have d4:=nl hg b1;have d5:=ng hg b1;have e7:=nl hg b7;have e8:=ng hg b7;have e9:=nl hg b4;have h0:=ng hg b4;replace b1:=kB b1 hb;replace b7:=kB b7 hb;replace b4:=kB b4 hb;replace HB:=bB HB hb;clear hb hbox hg;have E8:=e3.out;have E9:=e4.out;have F0:=e5.out;have F1:=e6.out;have F2:=d4.out;have F3:=d5.out;have p9:E6.cell? ⟨d3,0,none⟩ = some (.slice n3 d0.length h6):=cz b1 0;have q0:E6.cell? ⟨d3,1,none⟩ = some (.slice h7 b8.length h8):=cz b1 1;have q1:=blk_frozen b1.out 0;have q2:=blk_frozen b1.out 1;have n5:0 ≤ (a0:Int):=of_decide_eq_true (by assumption);have n6:a0 < (d0.length:Int):=of_decide_eq_true (by assumption);obtain ⟨h2,D0,j9⟩:=Kd.at_int j7.out a0 n5 n6;cases D0;replace j9:=cT HB j9;replace n5:=eq_true n5;replace n6:=eq_true n6) | ((with_reducible refine gate_callee (f:=64) rfl ?_);refine gL (some 15) Try.func64 #[.int .i64 (rd d0 a0)] ?_;(with_reducible refine (shares_whole.calls (rd d0 a0) n4 o7 _ A7.out).mono ?_);rintro e P3 ⟨rfl,hb⟩;refine ⟨_,rfl,?_⟩;replace b1:=kB b1 hb;replace b7:=kB b7 hb;replace b4:=kB b4 hb;replace b5:=kB b5 hb;replace HB:=bB HB hb;(try clear hb)) | ((with_reducible refine gate_dst (N:=7) rfl ?_);refine bx 7 #[.int .i64 0,.int .i64 0] 23 ?_;intro h3 hg q3 hbox hb;have b6:=A_ hbox;have o9:=gw hg HB;have F4:=o9;have b9:=nl hg b1;have d2:=ng hg b1;have c0:=nl hg b7;have d6:=ng hg b7;have c1:=nl hg b4;have d7:=ng hg b4;have d1:=nl hg b5;have d8:=ng hg b5;replace b1:=kB b1 hb;replace b7:=kB b7 hb;replace b4:=kB b4 hb;replace b5:=kB b5 hb;replace HB:=bB HB hb;clear hb hbox hg;have F5:=d2.out;have F6:=b9.out;have F7:=d6.out;have F8:=c0.out;have F9:=d7.out;have G0:=c1.out;have G1:=d8.out;have G2:=d1.out;have q4:q3.cell? ⟨h3,0,none⟩ = some (.int .i64 0):=cz b6 0;have q5:q3.cell? ⟨h3,1,none⟩ = some (.int .i64 0):=cz b6 1;have q6:=blk_frozen b6.out 0;have q7:=blk_frozen b6.out 1;have q8:q3.cell? ⟨d3,0,none⟩ = some (.slice (some h2) d0.length h6):=cz b1 0;have q9:q3.cell? ⟨d3,1,none⟩ = some (.slice h7 b8.length h8):=cz b1 1;have r0:=blk_frozen b1.out 0;have r4:=blk_frozen b1.out 1))
 go_loopg [8,19] k (fun kq v8 O6 w'=>∃ (e0:Int) (b0:Int) (b3:Int) (b2:Int),v8 = .int .i64 e0 ∧ O6 = .int .i64 b0 ∧ Aside0 (shares_net_fair_1.l0 kq a0 e0 (b8.length:Int) b0 d0 b8 l2 l3 b3 b2 = some (r1,r2,r3)) ∧ Aside0 (kq ≤ k) ∧ Aside0 (w'.heap[d3]? = some (.cells #[(.slice (some h2) d0.length h6),(.slice h7 b8.length h8)] 109 (0,0))) ∧ Aside0 (w'.heap[i4]? = some (.cells #[(.slice A2 l2.length c2)] 115 (0,0))) ∧ Aside0 (w'.heap[h5]? = some (.cells #[(.slice A3 l3.length c3)] 35 (0,0))) ∧ Aside0 (w'.heap[i5]? = some (.cells #[.int .i64 0,.int .i64 0] 23 (0,0))) ∧ Aside0 (w'.heap[h3]? = some (.cells #[.int .i64 b3,.int .i64 b2] 23 (0,0))) ∧ Aside0 (Below w.heap.size w w'))
 case atStart=>exact ⟨(0),(0),(n4),(o7),rfl,rfl,H',⟨Nat.le_refl _⟩,⟨by refine blk_far ?_ b9.out _;refine blk_far ?_ b9.out _;exact b1.out⟩,⟨by refine blk_far ?_ c0.out _;refine blk_far ?_ c0.out _;exact b7.out⟩,⟨by refine blk_far ?_ c1.out _;refine blk_far ?_ c1.out _;exact b4.out⟩,⟨by refine blk_far ?_ d1.out _;refine blk_far ?_ d1.out _;exact b5.out⟩,⟨by refine blk_put (cs:=#[.int .i64 n4,.int .i64 0]) ?_ 1 _ rfl;refine blk_put (cs:=#[.int .i64 0,.int .i64 0]) ?_ 0 _ rfl;exact b6.out⟩,⟨bl HB⟩⟩
 case round =>
  clear H'
  obtain ⟨e0,b0,b3,b2,rfl,rfl,HA,o5,b1,b7,b4,b5,b6,HB⟩:=hrel
  cases gk with
  | zero=>exact absurd HA.out (by simp [shares_net_fair_1.l0])
  | succ k1 =>
   have H:=HA.out
   clear HA
   simp only [shares_net_fair_1.l0] at H
   by_cases o6:b0 < (b8.length:Int)
   case neg =>
    rw [if_neg o6] at H
    have p0:=decide_eq_false o6
    clear o6
    by_cases n7:e0 = 0
    ·rw [if_pos n7] at H
     have p1:(e0 == 0) = true:=beq_iff_eq.mpr n7
     have p2:(e0 != 0) = false:=bne_eq_false_iff_eq.mpr n7
     clear n7
     simp only [Option.some.injEq,Prod.mk.injEq] at H
     obtain ⟨rfl,rfl,rfl⟩:=H
     have G3:=d5.out
     have G4:=d4.out
     have G5:=e8.out
     have G6:=e7.out
     have G7:=h0.out
     have G8:=e9.out
     have G9:=d1.out
     have H0:=d8.out
     have r5:wr.cell? ⟨i5,0,none⟩ = some (.int .i64 0):=cz b5 0
     have r6:wr.cell? ⟨i5,1,none⟩ = some (.int .i64 0):=cz b5 1
     have r7:=blk_frozen b5.out 0
     have r8:=blk_frozen b5.out 1
     go_wp2
     refine bodyPost_ret (results_ct rfl _ _ i5 23 #[.int .i64 0,.int .i64 0] (0,0) _ rfl (by refine blk_put (cs:=#[.int .i64 0,.int .i64 0]) ?_ 1 _ rfl;refine blk_put (cs:=#[.int .i64 0,.int .i64 0]) ?_ 0 _ rfl;exact b5.out) Try.underlying23 rfl (by kernel_rfl)) rfl ?_
     exact ⟨rfl,bl HB⟩
    rw [if_neg n7] at H
    have p1:(e0 == 0) = false:=beq_eq_false_iff_ne.mpr n7
    have p2:(e0 != 0) = true:=bne_iff_ne.mpr n7
    replace H:=Option.bind_eq_some_iff.mp H
    obtain ⟨⟨n8,p3⟩,A770,H⟩:=H
    dsimp only at H
    have O7:=A_ A770
    clear A770
    simp only [Option.some.injEq,Prod.mk.injEq] at H
    obtain ⟨rfl,rfl,rfl⟩:=H
    have H1:=d2.out
    have H2:=b9.out
    have H3:=d6.out
    have H4:=c0.out
    have H5:=d7.out
    have H6:=c1.out
    have H7:=d8.out
    have H8:=d1.out
    have r9:wr.cell? ⟨h3,0,none⟩ = some (.int .i64 b3):=cz b6 0
    have s0:wr.cell? ⟨h3,1,none⟩ = some (.int .i64 b2):=cz b6 1
    have s1:=blk_frozen b6.out 0
    have s2:=blk_frozen b6.out 1
    go_wp2_with (first | ((with_reducible refine gate_callee (f:=96) rfl ?_);refine gL (some 53) Try.func96 #[.agg #[.int .i64 b3,.int .i64 b2],.int .i64 e0] ?_;(with_reducible refine (shares_over.calls k1 b3 b2 e0 n8 p3 _ O7.out).mono ?_);rintro e H9 ⟨rfl,hb⟩;refine ⟨_,rfl,?_⟩;replace b1:=kB b1 hb;replace b7:=kB b7 hb;replace b4:=kB b4 hb;replace b5:=kB b5 hb;replace b6:=kB b6 hb;replace HB:=bB HB hb;(try clear hb);have I0:=d5.out;have I1:=d4.out;have I2:=e8.out;have I3:=e7.out;have I4:=h0.out;have I5:=e9.out;have s3:H9.cell? ⟨i5,0,none⟩ = some (.int .i64 0):=cz b5 0;have s4:H9.cell? ⟨i5,1,none⟩ = some (.int .i64 0):=cz b5 1;have s5:=blk_frozen b5.out 0;have s6:=blk_frozen b5.out 1))
    refine bodyPost_ret (results_ct rfl _ _ i5 23 #[.int .i64 n8,.int .i64 p3] (0,0) _ rfl (by refine blk_put (cs:=#[.int .i64 n8,.int .i64 0]) ?_ 1 _ rfl;refine blk_put (cs:=#[.int .i64 0,.int .i64 0]) ?_ 0 _ rfl;exact b5.out) Try.underlying23 rfl (by kernel_rfl)) rfl ?_
    exact ⟨rfl,bl HB⟩
   rw [if_pos o6] at H
   have p0:=decide_eq_true o6
   clear o6
   replace H:=Option.bind_eq_some_iff.mp H
   obtain ⟨m6,p4,H⟩:=H
   replace H:(if m6 = true then (if 0 ≤ b0 then (if b0 < (l2.length:Int) then (if rdOf false l2 b0 = true then (if b0 < (l3.length:Int) then ((shares_minus.f k1 b3 b2 ((rd_T23 l3 b0).f0) ((rd_T23 l3 b0).f1)).bind fun h4=>(shares_net_fair_1.l0 k1 a0 e0 (b8.length:Int) (wrap64 (b0 + 1)) d0 b8 l2 l3 h4.1 h4.2)) else (none)) else (if b0 < (b8.length:Int) then (shares_net_fair_1.l0 k1 a0 (wrap64 (e0 + ((rd_T45 b8 b0).f0))) (b8.length:Int) (wrap64 (b0 + 1)) d0 b8 l2 l3 b3 b2) else (none))) else (none)) else (none)) else (shares_net_fair_1.l0 k1 a0 e0 (b8.length:Int) (wrap64 (b0 + 1)) d0 b8 l2 l3 b3 b2)) = some (r1,r2,r3):=H
   have D1:=A_ p4
   clear p4
   by_cases s7:m6 = true
   case neg =>
    replace s7:=Bool.eq_false_iff.mpr s7
    subst s7
    rw [if_neg (show ¬ (false = true) by decide)] at H
    have H':=A_ H
    clear H
    have I6:=e3.out
    have I7:=e4.out
    have I8:=e5.out
    have I9:=e6.out
    have J0:=d4.out
    have J1:=d5.out
    have J2:=b9.out
    have J3:=d2.out
    have s8:wr.cell? ⟨d3,0,none⟩ = some (.slice (some h2) d0.length h6):=cz b1 0
    have s9:wr.cell? ⟨d3,1,none⟩ = some (.slice h7 b8.length h8):=cz b1 1
    have t0:=blk_frozen b1.out 0
    have t1:=blk_frozen b1.out 1
    go_wp2_with (first | ((with_reducible refine gate_callee (f:=104) rfl ?_);refine gL (some 34) Try.func104 #[.agg #[.slice (some h2) d0.length h6,.slice h7 b8.length h8],.int .i64 b0,.int .i64 a0] ?_;(with_reducible refine (shares_net_has.calls k1 _ _ d0 _ _ b8 b0 a0 false _ ?side1 ?side2 ?side3 ?side4 D1.out).mono ?_);(case side1=>exact cB j7 HB);(case side2=>exact m3.out);(case side3=>exact cB j8 HB);(case side4=>exact m4.out);rintro e P4 ⟨rfl,hb⟩;refine ⟨_,rfl,?_⟩;replace b1:=kB b1 hb;replace b7:=kB b7 hb;replace b4:=kB b4 hb;replace b5:=kB b5 hb;replace b6:=kB b6 hb;replace HB:=bB HB hb;(try clear hb)))
    go_roundg k1
    case measure=>have:=o5.out;omega
    case rel=>exact ⟨(e0),(wrap64 (b0 + 1)),(b3),(b2),rfl,rfl,H',⟨by have:=o5.out;omega⟩,⟨by exact b1.out⟩,⟨by exact b7.out⟩,⟨by exact b4.out⟩,⟨by exact b5.out⟩,⟨by exact b6.out⟩,⟨bl HB⟩⟩
   subst s7
   rw [if_pos rfl] at H
   replace H:=gd H
   obtain ⟨J4,H⟩:=H
   have J5:=decide_eq_true J4
   clear J4
   replace H:=gd H
   obtain ⟨J6,H⟩:=H
   have J7:=decide_eq_true J6
   clear J6
   obtain ⟨p5,m5⟩:∃ b_:Bool,b_ = (rdOf false l2 b0):=⟨_,rfl⟩
   replace H:(if p5 = true then (if b0 < (l3.length:Int) then ((shares_minus.f k1 b3 b2 ((rd_T23 l3 b0).f0) ((rd_T23 l3 b0).f1)).bind fun h4=>(shares_net_fair_1.l0 k1 a0 e0 (b8.length:Int) (wrap64 (b0 + 1)) d0 b8 l2 l3 h4.1 h4.2)) else (none)) else (if b0 < (b8.length:Int) then (shares_net_fair_1.l0 k1 a0 (wrap64 (e0 + ((rd_T45 b8 b0).f0))) (b8.length:Int) (wrap64 (b0 + 1)) d0 b8 l2 l3 b3 b2) else (none))) = some (r1,r2,r3):=by rw [← m5] at H;exact H
   have n2:=A_ m5
   clear m5
   by_cases t2:p5 = true
   case neg =>
    replace t2:=Bool.eq_false_iff.mpr t2
    subst t2
    rw [if_neg (show ¬ (false = true) by decide)] at H
    replace H:=gd H
    obtain ⟨J8,H⟩:=H
    have J9:=decide_eq_true J8
    clear J8
    have H':=A_ H
    clear H
    have K0:=e3.out
    have K1:=e4.out
    have K2:=e5.out
    have K3:=e6.out
    have K4:=d4.out
    have K5:=d5.out
    have K6:=b9.out
    have K7:=d2.out
    have t3:wr.cell? ⟨d3,0,none⟩ = some (.slice (some h2) d0.length h6):=cz b1 0
    have t4:wr.cell? ⟨d3,1,none⟩ = some (.slice h7 b8.length h8):=cz b1 1
    have t5:=blk_frozen b1.out 0
    have t6:=blk_frozen b1.out 1
    go_wp2_with (first | ((with_reducible refine gate_callee (f:=104) rfl ?_);refine gL (some 34) Try.func104 #[.agg #[.slice (some h2) d0.length h6,.slice h7 b8.length h8],.int .i64 b0,.int .i64 a0] ?_;(with_reducible refine (shares_net_has.calls k1 _ _ d0 _ _ b8 b0 a0 true _ ?side1 ?side2 ?side3 ?side4 D1.out).mono ?_);(case side1=>exact cB j7 HB);(case side2=>exact m3.out);(case side3=>exact cB j8 HB);(case side4=>exact m4.out);rintro e t7 ⟨rfl,hb⟩;refine ⟨_,rfl,?_⟩;replace b1:=kB b1 hb;replace b7:=kB b7 hb;replace b4:=kB b4 hb;replace b5:=kB b5 hb;replace b6:=kB b6 hb;replace HB:=bB HB hb;(try clear hb);have K8:=i6.out;have K9:=i7.out;have L0:=e7.out;have L1:=e8.out;have L2:=c0.out;have L3:=d6.out;have t8:t7.cell? ⟨i4,0,none⟩ = some (.slice A2 l2.length c2):=cz b7 0;have t9:=blk_frozen b7.out 0;have i9:0 ≤ (b0:Int):=of_decide_eq_true (by assumption);have j5:b0 < (l2.length:Int):=of_decide_eq_true (by assumption);obtain ⟨p6,n9,d9⟩:=Kd.at_bool E5.out b0 i9 j5;(try rw [← n2.out] at d9);cases n9;replace d9:=cT HB d9;replace i9:=eq_true i9;replace j5:=eq_true j5;have L4:=e9.out;have L5:=h0.out;have L6:=c1.out;have L7:=d7.out;have x1:t7.cell? ⟨h5,0,none⟩ = some (.slice A3 l3.length c3):=cz b4 0;have x2:=blk_frozen b4.out 0;have x3:t7.cell? ⟨d3,0,none⟩ = some (.slice (some h2) d0.length h6):=cz b1 0;have x4:t7.cell? ⟨d3,1,none⟩ = some (.slice h7 b8.length h8):=cz b1 1;have x5:=blk_frozen b1.out 0;have x6:=blk_frozen b1.out 1;have o0:0 ≤ (b0:Int):=of_decide_eq_true (by assumption);have o1:b0 < (b8.length:Int):=of_decide_eq_true (by assumption);obtain ⟨L8,D2,D3,D4,l5,l6,l7,l8⟩:=at_T45 j8.out b0 o0 o1;cases D4;replace l5:=cT HB l5;replace l6:=cT HB l6;have x7:=A_ l8;have x9:=A_ l7;clear l8 l7;replace o0:=eq_true o0;replace o1:=eq_true o1))
    go_roundg k1
    case measure=>have:=o5.out;omega
    case rel=>exact ⟨(wrap64 (e0 + ((rd_T45 b8 b0).f0))),(wrap64 (b0 + 1)),(b3),(b2),rfl,rfl,H',⟨by have:=o5.out;omega⟩,⟨by exact b1.out⟩,⟨by exact b7.out⟩,⟨by exact b4.out⟩,⟨by exact b5.out⟩,⟨by exact b6.out⟩,⟨bl HB⟩⟩
   subst t2
   rw [if_pos rfl] at H
   replace H:=gd H
   obtain ⟨L9,H⟩:=H
   have M0:=decide_eq_true L9
   clear L9
   replace H:=Option.bind_eq_some_iff.mp H
   obtain ⟨⟨o2,p7⟩,A320,H⟩:=H
   dsimp only at H
   have O8:=A_ A320
   clear A320
   have H':=A_ H
   clear H
   have M1:=e3.out
   have M2:=e4.out
   have M3:=e5.out
   have M4:=e6.out
   have M5:=d4.out
   have M6:=d5.out
   have M7:=b9.out
   have M8:=d2.out
   have z0:wr.cell? ⟨d3,0,none⟩ = some (.slice (some h2) d0.length h6):=cz b1 0
   have z1:wr.cell? ⟨d3,1,none⟩ = some (.slice h7 b8.length h8):=cz b1 1
   have z2:=blk_frozen b1.out 0
   have z3:=blk_frozen b1.out 1
   try go_wp2_with (first | ((with_reducible refine gate_callee (f:=104) rfl ?_);refine gL (some 34) Try.func104 #[.agg #[.slice (some h2) d0.length h6,.slice h7 b8.length h8],.int .i64 b0,.int .i64 a0] ?_;(with_reducible refine (shares_net_has.calls k1 _ _ d0 _ _ b8 b0 a0 true _ ?side1 ?side2 ?side3 ?side4 D1.out).mono ?_);(case side1=>exact cB j7 HB);(case side2=>exact m3.out);(case side3=>exact cB j8 HB);(case side4=>exact m4.out);rintro e D5 ⟨rfl,hb⟩;refine ⟨_,rfl,?_⟩;replace b1:=kB b1 hb;replace b7:=kB b7 hb;replace b4:=kB b4 hb;replace b5:=kB b5 hb;replace b6:=kB b6 hb;replace HB:=bB HB hb;(try clear hb);have M9:=i6.out;have N0:=i7.out;have N1:=e7.out;have N2:=e8.out;have N3:=c0.out;have N4:=d6.out;have z4:D5.cell? ⟨i4,0,none⟩ = some (.slice A2 l2.length c2):=cz b7 0;have z5:=blk_frozen b7.out 0;have i9:0 ≤ (b0:Int):=of_decide_eq_true (by assumption);have j5:b0 < (l2.length:Int):=of_decide_eq_true (by assumption);obtain ⟨p6,n9,d9⟩:=Kd.at_bool E5.out b0 i9 j5;(try rw [← n2.out] at d9);cases n9;replace d9:=cT HB d9;replace i9:=eq_true i9;replace j5:=eq_true j5;have N5:=e9.out;have N6:=h0.out;have N7:=c1.out;have N8:=d7.out;have z6:D5.cell? ⟨h5,0,none⟩ = some (.slice A3 l3.length c3):=cz b4 0;have z7:=blk_frozen b4.out 0))
   replace b1:=kD b1
   replace b7:=kD b7
   replace b4:=kD b4
   replace b5:=kD b5
   replace b6:=kD b6
   replace HB:=bD HB
   have o3:0 ≤ (b0:Int):=of_decide_eq_true (by assumption)
   have o4:b0 < (l3.length:Int):=of_decide_eq_true (by assumption)
   obtain ⟨l9,D6,i2,i3⟩:=at_T23 O3.out b0 o3 o4
   have m0:=i3
   have m1:=i2
   cases D6
   replace i2:=cT HB i2
   replace i3:=cT HB i3
   replace o3:=eq_true o3
   replace o4:=eq_true o4
   refine start_ (n:=7) (S:=fun w'=>w'.cell? ⟨h3,0,none⟩ = some (.int .i64 b3) ∧ w'.cell? ⟨h3,1,none⟩ = some (.int .i64 b2) ∧ w'.cell? ⟨h5,0,none⟩ = some (.slice (some l9) l3.length c3) ∧ w'.cell? (l9.add ((b0).toNat * 2)) = some (.int .i64 ((rd_T23 l3 b0).f0)) ∧ w'.cell? ⟨(l9.add ((b0).toNat * 2)).block,(l9.add ((b0).toNat * 2)).off + 1,none⟩ = some (.int .i64 ((rd_T23 l3 b0).f1))) (ds:=[6]) (ba 7 0) (by kernel_rfl) rfl rfl ⟨cz b6 0,cz b6 1,cz b4 0,(cT HB m1),(cT HB m0)⟩ (fun hHeld=>?_)
   generalize D5.drew = P5 at b1 b7 b4 b5 b6 HB i2 i3 hHeld ⊢
   refine pr 2 43 4 ?_
   refine tr 0 41 5 hHeld ?_
   refine tr 1 42 7 hHeld ?_
   refine pr 3 44 15 ?_
   refine tr 4 45 31 hHeld ?_
   refine os 5 46 63 (fun K hK=>?_)
   refine gq Try.func95 #[.agg #[.int .i64 b3,.int .i64 b2],.agg #[.int .i64 ((rd_T23 l3 b0).f0),.int .i64 ((rd_T23 l3 b0).f1)]] ?_
   with_reducible refine (shares_minus.calls k1 b3 b2 ((rd_T23 l3 b0).f0) ((rd_T23 l3 b0).f1) o2 p7 _ O8.out).mono ?_
   rintro e N9 ⟨rfl,hb⟩
   refine ⟨_,rfl,?_⟩
   replace b1:=kB b1 hb
   replace b7:=kB b7 hb
   replace b4:=kB b4 hb
   replace b5:=kB b5 hb
   replace b6:=kB b6 hb
   replace HB:=bB HB hb
   (try clear hb)
   refine hK.out _ _ ⟨cz b6 0,cz b6 1,cz b4 0,(cT HB m1),(cT HB m0)⟩ (fun hHeld=>?_)
   clear hK K
   refine nq 46 ?_
   refine last_ (i:=6) (N:=none) (ba 7 127) rfl rfl (by kernel_rfl) (by decide) (fun K hK=>?_)
   have O9:N9.cell? ⟨h3,0,none⟩ = some (.int .i64 b3):=cz b6 0
   have O0:=blk_frozen b6.out 0
   have z8:=b9.out
   have z9:=c0.out
   have A0:=c1.out
   have A1:=d1.out
   have A4:=d2.out
   have A5:=d6.out
   have A6:=d7.out
   have A8:=d8.out
   have P0:N9.cell? ⟨h3,1,none⟩ = some (.int .i64 b2):=cz b6 1
   have O1:=blk_frozen b6.out 1
   have A9:=b9.out
   have B0:=c0.out
   have C0:=c1.out
   have C1:=d1.out
   have C2:=d2.out
   have C3:=d6.out
   have C4:=d7.out
   have C5:=d8.out
   refine skip_ (w1:=?_) (by rfl) rfl ?_ ?_
   rotate_left
   ·go_simp
    rfl
   refine hK.out _ _ ?_
   clear hK K
   refine done_ (by kernel_rfl) ?_
   try go_wp2
   go_roundg k1
   case measure=>have:=o5.out;omega
   case rel=>exact ⟨(e0),(wrap64 (b0 + 1)),(o2),(p7),rfl,rfl,H',⟨by have:=o5.out;omega⟩,⟨by refine blk_far ?_ b9.out _;refine blk_far ?_ b9.out _;exact b1.out⟩,⟨by refine blk_far ?_ c0.out _;refine blk_far ?_ c0.out _;exact b7.out⟩,⟨by refine blk_far ?_ c1.out _;refine blk_far ?_ c1.out _;exact b4.out⟩,⟨by refine blk_far ?_ d1.out _;refine blk_far ?_ d1.out _;exact b5.out⟩,⟨by refine blk_put (cs:=#[.int .i64 o2,.int .i64 b2]) ?_ 1 _ rfl;refine blk_put (cs:=#[.int .i64 b3,.int .i64 b2]) ?_ 0 _ rfl;exact b6.out⟩,⟨bl HB⟩⟩
end Go.Proofs.Ytjohcjfmlhihbaa.G
namespace Go.Proofs.Ytjohcjfmlhihbaa.G
open Go.RowKit Go.Proofs.YtjohcjfmlhihbaaW.PrintWords Go.Proofs.YtjohcjfmlhihbaaW.PrintLast Go.Proofs.YtjohcjfmlhihbaaW.PrintMore
set_option maxHeartbeats 8000000
set_option maxRecDepth 100000
attribute [local go_sem] cond_true cond_false fld23_0 fld23_1 fld45_0 fld45_1 fld109_0 fld109_1 fld94_0 fld94_1 max2_int min2_int max_two min_two max_three min_three max_four min_four   -- for this text's walks alone
def slices_Index_bool_bool.l0:Nat → List Bool → Bool → Int → Int → Option (Int)
 | 0,_,_,_,_=>none
 | k + 1,x0,x1,x7,x8=>if x8 < x7 then (if 0 ≤ x8 then (if x8 < (x0.length:Int) then (if (x1 == (rdOf false x0 x8)) = true then (some x8) else (slices_Index_bool_bool.l0 k x0 x1 x7 (wrap64 (x8 + 1)))) else (none)) else (none)) else (some (-1))
def slices_Index_bool_bool.f (k:Nat) (l0:List Bool) (a1:Bool):Option (Int):=slices_Index_bool_bool.l0 k l0 a1 (l0.length:Int) 0
theorem slices_Index_bool_bool.mono_l:∀ k,(∀ y0 y1 y2 y3,LeO (slices_Index_bool_bool.l0 k y0 y1 y2 y3) (slices_Index_bool_bool.l0 (k + 1) y0 y1 y2 y3))
 | 0=>fun _ _ _ _ r h=>by simp [slices_Index_bool_bool.l0] at h
 | k + 1=>by
  have b5:=slices_Index_bool_bool.mono_l k
  intro y0 y1 y2 y3
  unfold slices_Index_bool_bool.l0
  repeat' first
  | (with_reducible exact b5 _ _ _ _)
  | (with_reducible exact LeO.refl _)
  | (with_reducible exact LeO.none _)
  | (with_reducible refine LeO.ite ?_ ?_)
  | (with_reducible refine LeO.bind ?_ (fun _=>?_))
  | exact b5 _ _ _ _
  | exact LeO.none _
  | refine LeO.ite ?_ ?_
  | refine LeO.bind ?_ (fun _=>?_)
theorem slices_Index_bool_bool.mono:∀ a0 a1 k,LeO (slices_Index_bool_bool.f k a0 a1) (slices_Index_bool_bool.f (k + 1) a0 a1):=by
 intro a0 a1 k
 have b5:=slices_Index_bool_bool.mono_l k
 unfold slices_Index_bool_bool.f
 repeat' first
   | (with_reducible exact b5 _ _ _ _)
   | (with_reducible exact LeO.refl _)
   | (with_reducible exact LeO.none _)
   | (with_reducible refine LeO.ite ?_ ?_)
   | (with_reducible refine LeO.bind ?_ (fun _=>?_))
   | exact b5 _ _ _ _
   | exact LeO.none _
   | refine LeO.ite ?_ ?_
   | refine LeO.bind ?_ (fun _=>?_)
theorem slices_Index_bool_bool.calls (k:Nat) (A0:Option Addr) (c0:Nat) (l0:List Bool) (a1:Bool) (r:Int) (w:World) (d1:Kd.C Kd.bool w A0 l0.length l0) (d2:l0.length ≤ c0) (h:slices_Index_bool_bool.f k l0 a1 = some r) :
  Calls Try.prog 125 #[.slice A0 l0.length c0,.bool a1] w fun e w'=>e = .returned (.int .i64 r) ∧ Drawn0 w w':=by
 have d3:=Aside0.mk d1
 have d8:=Aside0.mk d2
 clear d1 d2
 have H:(slices_Index_bool_bool.l0 k l0 a1 (l0.length:Int) 0) = some r:=h
 clear h
 have H':=Aside0.mk H
 clear H
 go_enter Try.func125,Try.ntmps125
 go_wp2
 go_loopg [8] k (fun kq v8 w'=>∃ (b0:Int),v8 = .int .i64 b0 ∧ Aside0 (slices_Index_bool_bool.l0 kq l0 a1 (l0.length:Int) b0 = some r) ∧ Aside0 (kq ≤ k) ∧ Drawn0 w w')
 case atStart=>exact ⟨(0),(by first | rfl | (simp;done) | (simp [*];done)),H',⟨Nat.le_refl _⟩,by repeat (first | exact Drawn0.refl _ | apply Drawn0.step)⟩
 case round =>
  clear H'
  try clear c1
  try clear p2
  obtain ⟨b0,rfl,HA,d4,⟨m1,rfl⟩⟩:=hrel
  cases gk with
  | zero=>exact absurd HA.out (by simp [slices_Index_bool_bool.l0])
  | succ k1 =>
   have H:=HA.out
   clear HA
   simp only [slices_Index_bool_bool.l0] at H
   by_cases c3:b0 < (l0.length:Int)
   case neg =>
    rw [if_neg c3] at H
    have b7:decide (b0 < (l0.length:Int)) = false:=decide_eq_false c3
    clear c3
    obtain rfl:=Option.some.inj H
    go_wp2
    go_ret
    exact ⟨by first | rfl | (simp;done) | (simp [*];done),by repeat (first | exact Drawn0.refl _ | apply Drawn0.step)⟩
   rw [if_pos c3] at H
   have b7:decide (b0 < (l0.length:Int)) = true:=decide_eq_true c3
   clear c3
   by_cases c4:0 ≤ b0
   case neg =>
    rw [if_neg c4] at H
    exact absurd H (by simp)
   rw [if_pos c4] at H
   have d5:decide (0 ≤ b0) = true:=decide_eq_true c4
   clear c4
   by_cases c5:b0 < (l0.length:Int)
   case neg =>
    rw [if_neg c5] at H
    exact absurd H (by simp)
   rw [if_pos c5] at H
   have d6:decide (b0 < (l0.length:Int)) = true:=decide_eq_true c5
   clear c5
   by_cases c6:(a1 == (rdOf false l0 b0)) = true
   ·rw [if_pos c6] at H
    have b8:(a1 == (rdOf false l0 b0)) = true:=c6
    (try (have b9:decide (a1 = (rdOf false l0 b0)) = true:=by simpa using c6))
    (try (have d0:(a1 == (rdOf false l0 b0)) = true:=by simpa using c6))
    clear c6
    obtain rfl:=Option.some.inj H
    have b1:0 ≤ (b0:Int):=of_decide_eq_true (by first | (with_reducible assumption) | assumption)
    have b2:b0 < (l0.length:Int):=of_decide_eq_true (by first | (with_reducible assumption) | assumption)
    obtain ⟨b6,b4,b3⟩:=Kd.at_bool d3.out b0 b1 b2
    cases b4
    replace b1:=eq_true b1
    replace b2:=eq_true b2
    go_wp2
    go_ret
    exact ⟨by first | rfl | (simp;done) | (simp [*];done),by repeat (first | exact Drawn0.refl _ | apply Drawn0.step)⟩
   rw [if_neg c6] at H
   have b8:(a1 == (rdOf false l0 b0)) = false:=by simpa using c6
   (try (have b9:decide (a1 = (rdOf false l0 b0)) = false:=by simpa using c6))
   (try (have d0:(a1 == (rdOf false l0 b0)) = false:=by simpa using c6))
   (try (have d7:¬ (a1 = (rdOf false l0 b0)):=by simpa using c6))
   clear c6
   have H':=Aside0.mk H
   clear H
   have b1:0 ≤ (b0:Int):=of_decide_eq_true (by first | (with_reducible assumption) | assumption)
   have b2:b0 < (l0.length:Int):=of_decide_eq_true (by first | (with_reducible assumption) | assumption)
   obtain ⟨b6,b4,b3⟩:=Kd.at_bool d3.out b0 b1 b2
   cases b4
   replace b1:=eq_true b1
   replace b2:=eq_true b2
   go_wp2
   go_roundg k1
   case measure=>have:=d4.out;omega
   case rel=>exact ⟨(wrap64 (b0 + 1)),(by first | rfl | (simp;done) | (simp [*];done)),H',⟨by have:=d4.out;omega⟩,by repeat (first | exact Drawn0.refl _ | apply Drawn0.step)⟩
def slices_Contains_bool_bool.f (k:Nat) (l0:List Bool) (a1:Bool):Option (Bool):=(slices_Index_bool_bool.f k l0 a1).bind fun b0=>(some (decide (b0 ≥ 0)))
theorem slices_Contains_bool_bool.mono:∀ a0 a1 k,LeO (slices_Contains_bool_bool.f k a0 a1) (slices_Contains_bool_bool.f (k + 1) a0 a1):=by
 intro a0 a1 k
 unfold slices_Contains_bool_bool.f
 repeat' first
   | (with_reducible exact slices_Index_bool_bool.mono _ _ _)
   | (with_reducible exact LeO.refl _)
   | (with_reducible exact LeO.none _)
   | (with_reducible refine LeO.ite ?_ ?_)
   | (with_reducible refine LeO.bind ?_ (fun _=>?_))
   | exact slices_Index_bool_bool.mono _ _ _
   | exact LeO.none _
   | refine LeO.ite ?_ ?_
   | refine LeO.bind ?_ (fun _=>?_)
theorem slices_Contains_bool_bool.calls (k:Nat) (A0:Option Addr) (c0:Nat) (l0:List Bool) (a1:Bool) (r:Bool) (w:World) (b1:Kd.C Kd.bool w A0 l0.length l0) (b2:l0.length ≤ c0) (h:slices_Contains_bool_bool.f k l0 a1 = some r) :
  Calls Try.prog 105 #[.slice A0 l0.length c0,.bool a1] w fun e w'=>e = .returned (.bool r) ∧ Drawn0 w w':=by
 have b4:=Aside0.mk b1
 have b5:=Aside0.mk b2
 clear b1 b2
 have H:((slices_Index_bool_bool.f k l0 a1).bind fun b0=>(some (decide (b0 ≥ 0)))) = some r:=h
 clear h
 replace H:=Option.bind_eq_some_iff.mp H
 obtain ⟨b0,b3,H⟩:=H
 replace H:(some (decide (b0 ≥ 0))) = some r:=H
 have A3:=Aside0.mk b3
 clear b3
 obtain rfl:=Option.some.inj H
 go_enter Try.func105,Try.ntmps105
 go_wp2_with (first | ((with_reducible refine gate_callee (f:=125) rfl ?_);refine goesL_ (some 7) rfl rfl Try.func125 (by kernel_rfl) rfl #[.slice A0 l0.length c0,.bool a1] rfl (by (try simp only [List.map_toArray,List.map_cons,List.map_nil]);first | done | rfl | (simp only [List.length_drop,List.length_take];rfl)) ?_;(with_reducible refine (slices_Index_bool_bool.calls k _ _ l0 a1 b0 _ ?side1 ?side2 A3.out).mono ?_);(case side1=>repeat (first | exact b4.out | (with_reducible refine Kd.C_alloc ?_ _) | (with_reducible refine Kd.C_drewN ?_ _) | (with_reducible refine Kd.C_drew ?_)));(case side2=>exact b5.out);rintro e w' ⟨rfl,⟨nd,rfl⟩⟩;refine ⟨_,rfl,?_⟩))
 go_ret
 exact ⟨by first | rfl | (simp;done) | (simp [*];done),by repeat (first | exact Drawn0.refl _ | apply Drawn0.step)⟩
end Go.Proofs.Ytjohcjfmlhihbaa.G
namespace Go.Proofs.Ytjohcjfmlhihbaa.G
open Go.RowKit Go.Proofs.YtjohcjfmlhihbaaW.PrintWords Go.Proofs.YtjohcjfmlhihbaaW.PrintLast Go.Proofs.YtjohcjfmlhihbaaW.PrintMore
set_option maxHeartbeats 8000000
set_option maxRecDepth 100000
attribute [local go_sem] cond_true cond_false fld23_0 fld23_1 fld45_0 fld45_1 fld109_0 fld109_1 fld94_0 fld94_1 max2_int min2_int max_two min_two max_three min_three max_four min_four
mutual
def shares_net_fair.l0:Nat → List Int → List (S45) → List (S23) → List Bool → Option ((List (S23)))
 | 0,_,_,_,_=>none
 | k + 1,i0,h1,i1,h2=>(slices_Contains_bool_bool.f k h2 false).bind fun r0=>(if r0 = true then (shares_net_fair.l1 k (-1) (i0.length:Int) 0 i0 h1 i1 h2 0 0) else (some i1))
def shares_net_fair.l1:Nat → Int → Int → Int → List Int → List (S45) → List (S23) → List Bool → Int → Int → Option ((List (S23)))
 | 0,_,_,_,_,_,_,_,_,_=>none
 | k + 1,x6,A1,r6,i0,h1,i1,h2,j5,j7=>if r6 < A1 then ((shares_net_fair_1.f k r6 i0 h1 h2 i1).bind fun m6=>(if m6.2.2 = true then (if x6 < 0 then (shares_net_fair.l1 k r6 A1 (wrap64 (r6 + 1)) i0 h1 i1 h2 m6.1 m6.2.1) else ((shares_compare.f k m6.1 m6.2.1 j5 j7).bind fun p1=>(if p1 < 0 then (shares_net_fair.l1 k r6 A1 (wrap64 (r6 + 1)) i0 h1 i1 h2 m6.1 m6.2.1) else (shares_net_fair.l1 k x6 A1 (wrap64 (r6 + 1)) i0 h1 i1 h2 j5 j7)))) else (shares_net_fair.l1 k x6 A1 (wrap64 (r6 + 1)) i0 h1 i1 h2 j5 j7))) else (shares_net_fair.l2 k x6 (h1.length:Int) 0 i0 h1 i1 h2 j5 j7)
def shares_net_fair.l2:Nat → Int → Int → Int → List Int → List (S45) → List (S23) → List Bool → Int → Int → Option ((List (S23)))
 | 0,_,_,_,_,_,_,_,_,_=>none
 | k + 1,x6,K5,p2,i0,h1,i1,h2,j5,j7=>if p2 < K5 then (if 0 ≤ p2 then (if p2 < (h2.length:Int) then (if rdOf false h2 p2 = true then (shares_net_fair.l2 k x6 K5 (wrap64 (p2 + 1)) i0 h1 i1 h2 j5 j7) else ((shares_net_has.f k i0 h1 p2 x6).bind fun p3=>(if p3 = true then (if p2 < (h1.length:Int) then ((shares_times.f k j5 j7 ((rd_T45 h1 p2).f0)).bind fun m0=>(if p2 < (i1.length:Int) then (shares_net_fair.l2 k x6 K5 (wrap64 (p2 + 1)) i0 h1 (i1.set (p2:Int).toNat (⟨m0.1,m0.2⟩:S23)) (h2.set (p2:Int).toNat true) j5 j7) else (none))) else (none)) else (shares_net_fair.l2 k x6 K5 (wrap64 (p2 + 1)) i0 h1 i1 h2 j5 j7)))) else (none)) else (none)) else (shares_net_fair.l0 k i0 h1 i1 h2)
end
def shares_net_fair.f (k:Nat) (e6:List Int) (c1:List (S45)):Option ((List (S23))):=if 0 ≤ (c1.length:Int) then (if ((c1.length:Int):Int).toNat ≤ 17592186044416 then (if ((c1.length:Int):Int).toNat ≤ 281474976710656 then (shares_net_fair.l0 k e6 c1 (List.replicate ((c1.length:Int):Int).toNat z23) (List.replicate ((c1.length:Int):Int).toNat false)) else (none)) else (none)) else (none)
theorem shares_net_fair.mono_l:∀ k,(∀ y0 y1 y2 y3,LeO (shares_net_fair.l0 k y0 y1 y2 y3) (shares_net_fair.l0 (k + 1) y0 y1 y2 y3)) ∧ (∀ y0 y1 y2 y3 y4 y5 y6 y7 y8,LeO (shares_net_fair.l1 k y0 y1 y2 y3 y4 y5 y6 y7 y8) (shares_net_fair.l1 (k + 1) y0 y1 y2 y3 y4 y5 y6 y7 y8)) ∧ (∀ y0 y1 y2 y3 y4 y5 y6 y7 y8,LeO (shares_net_fair.l2 k y0 y1 y2 y3 y4 y5 y6 y7 y8) (shares_net_fair.l2 (k + 1) y0 y1 y2 y3 y4 y5 y6 y7 y8))
 | 0=>⟨fun _ _ _ _ r h=>by simp [shares_net_fair.l0] at h,fun _ _ _ _ _ _ _ _ _ r h=>by simp [shares_net_fair.l1] at h,fun _ _ _ _ _ _ _ _ _ r h=>by simp [shares_net_fair.l2] at h⟩
 | k + 1=>by
  obtain ⟨A2,A3,A4⟩:=shares_net_fair.mono_l k
  refine ⟨?_,?_,?_⟩
  ·intro y0 y1 y2 y3
   unfold shares_net_fair.l0
   repeat' first
   | (with_reducible first | exact A2 _ _ _ _ | exact A3 _ _ _ _ _ _ _ _ _ | exact A4 _ _ _ _ _ _ _ _ _ | exact shares_compare.mono _ _ _ _ _ | exact shares_net_fair_1.mono _ _ _ _ _ _ | exact shares_net_has.mono _ _ _ _ _ | exact shares_times.mono _ _ _ _ | exact slices_Contains_bool_bool.mono _ _ _ | exact LeO.refl _ | exact LeO.none _ | refine LeO.ite ?_ ?_ | refine LeO.bind ?_ (fun _=>?_))
   | exact LeO.none _ | refine LeO.ite ?_ ?_ | refine LeO.bind ?_ (fun _=>?_)
  ·intro y0 y1 y2 y3 y4 y5 y6 y7 y8
   unfold shares_net_fair.l1
   repeat' first
   | (with_reducible first | exact A2 _ _ _ _ | exact A3 _ _ _ _ _ _ _ _ _ | exact A4 _ _ _ _ _ _ _ _ _ | exact shares_compare.mono _ _ _ _ _ | exact shares_net_fair_1.mono _ _ _ _ _ _ | exact shares_net_has.mono _ _ _ _ _ | exact shares_times.mono _ _ _ _ | exact slices_Contains_bool_bool.mono _ _ _ | exact LeO.refl _ | exact LeO.none _ | refine LeO.ite ?_ ?_ | refine LeO.bind ?_ (fun _=>?_))
   | exact LeO.none _ | refine LeO.ite ?_ ?_ | refine LeO.bind ?_ (fun _=>?_)
  intro y0 y1 y2 y3 y4 y5 y6 y7 y8
  unfold shares_net_fair.l2
  repeat' first
  | (with_reducible first | exact A2 _ _ _ _ | exact A3 _ _ _ _ _ _ _ _ _ | exact A4 _ _ _ _ _ _ _ _ _ | exact shares_compare.mono _ _ _ _ _ | exact shares_net_fair_1.mono _ _ _ _ _ _ | exact shares_net_has.mono _ _ _ _ _ | exact shares_times.mono _ _ _ _ | exact slices_Contains_bool_bool.mono _ _ _ | exact LeO.refl _ | exact LeO.none _ | refine LeO.ite ?_ ?_ | refine LeO.bind ?_ (fun _=>?_))
  | exact LeO.none _ | refine LeO.ite ?_ ?_ | refine LeO.bind ?_ (fun _=>?_)
theorem shares_net_fair.mono:∀ a0 a1 k,LeO (shares_net_fair.f k a0 a1) (shares_net_fair.f (k + 1) a0 a1):=by
 intro a0 a1 k
 obtain ⟨A2,A3,A4⟩:=shares_net_fair.mono_l k
 unfold shares_net_fair.f
 repeat' first
   | (with_reducible first | exact A2 _ _ _ _ | exact A3 _ _ _ _ _ _ _ _ _ | exact A4 _ _ _ _ _ _ _ _ _ | exact shares_compare.mono _ _ _ _ _ | exact shares_net_fair_1.mono _ _ _ _ _ _ | exact shares_net_has.mono _ _ _ _ _ | exact shares_times.mono _ _ _ _ | exact slices_Contains_bool_bool.mono _ _ _ | exact LeO.refl _ | exact LeO.none _ | refine LeO.ite ?_ ?_ | refine LeO.bind ?_ (fun _=>?_))
   | exact LeO.none _ | refine LeO.ite ?_ ?_ | refine LeO.bind ?_ (fun _=>?_)
theorem shares_net_fair.calls (k:Nat) (j8:Option Addr) (j9:Nat) (e6:List Int) (l7:Option Addr) (l5:Nat) (c1:List (S45)) (r:List (S23)) (w:World) (r7:Kd.C (Kd.int .i64) w j8 e6.length e6) (r8:e6.length ≤ j9) (r9:Kd.C k45 w l7 c1.length c1) (s0:c1.length ≤ l5) (h:shares_net_fair.f k e6 c1 = some r) :
  Calls Try.prog 71 #[.agg #[.slice j8 e6.length j9,.slice l7 c1.length l5]] w fun e w'=>∃ v0_:Value,e = .returned (v0_) ∧ Kd.R k23 23 w' w.heap.size (fun _=>True) v0_ r ∧ Below w.heap.size w w':=by
 have hu109:=Try.underlying109
 have hu23:=Try.underlying23
 have n3:=A_ r7
 have n4:=A_ r8
 clear r7 r8
 have m7:=A_ r9
 have n5:=A_ s0
 clear r9 s0
 have HB:=A_ (Below.refl w.heap.size w)
 have H:(if 0 ≤ (c1.length:Int) then (if ((c1.length:Int):Int).toNat ≤ 17592186044416 then (if ((c1.length:Int):Int).toNat ≤ 281474976710656 then (shares_net_fair.l0 k e6 c1 (List.replicate ((c1.length:Int):Int).toNat z23) (List.replicate ((c1.length:Int):Int).toNat false)) else (none)) else (none)) else (none)) = some r:=h
 clear h
 replace H:=gd H
 obtain ⟨c2,H⟩:=H
 have c2b0:=eq_true c2
 have c2b1:=decide_eq_true c2
 clear c2
 replace H:=gd H
 obtain ⟨c3,H⟩:=H
 have c3b0:=eq_true c3
 have c3b1:=decide_eq_true c3
 clear c3
 obtain ⟨r1,p7⟩:∃ y_:List (S23),y_ = (List.replicate ((c1.length:Int):Int).toNat z23):=⟨_,rfl⟩
 rw [← p7] at H
 have s1:=A_ p7
 clear p7
 replace H:=gd H
 obtain ⟨c4,H⟩:=H
 have c4b0:=eq_true c4
 have c4b1:=decide_eq_true c4
 clear c4
 obtain ⟨r2,p8⟩:∃ y_:List Bool,y_ = (List.replicate ((c1.length:Int):Int).toNat false):=⟨_,rfl⟩
 rw [← p8] at H
 have s2:=A_ p8
 clear p8
 have H':=A_ H
 clear H
 go_enter Try.func71,Try.ntmps71
 go_wp2_with (first | ((with_reducible refine gate_dst (N:=1) rfl ?_);refine bx 1 #[.slice j8 e6.length j9,.slice l7 c1.length l5] 109 ?_;intro e7 hg w5 hbox hb;have b2:=A_ hbox;have A5:=gw hg HB;have GE242:=A5;replace HB:=bB HB hb;clear hb hbox hg;have V8:w5.cell? ⟨e7,0,none⟩ = some (.slice j8 e6.length j9):=cz b2 0;have V9:w5.cell? ⟨e7,1,none⟩ = some (.slice l7 c1.length l5):=cz b2 1;have W0:=blk_frozen b2.out 0;have W1:=blk_frozen b2.out 1) | ((with_reducible refine gate_dst (N:=15) rfl ?_);refine Kd.R_make k23 _ 23 rfl (N:=15) rfl 35 _ _ rfl (c1.length:Int) rfl rfl Try.underlying35 (.agg #[(.int .i64 0),(.int .i64 0)]) 16 info23 rfl (by decide) (by omega) z23 (ok:=fun _=>True) (okp:=fun _=>True) (k23_mkM _ _ _ z23 ) (fun _ hk=>hk) trivial (of_decide_eq_true (by assumption)) (Nat.le_trans (Nat.mul_le_mul_right _ (of_decide_eq_true (by assumption):(c1.length:Int).toNat ≤ 17592186044416)) (by omega)) (Below.refl _ _) (Nat.le_refl _) ?_;intro v244 w7 A6 hb hg_ hnew_;clear hg_ hnew_;(first | rw [← s1.out] at A6 | (simp only [Int.reduceToNat] at A6;rw [← s1.out] at A6));have m1:=A_ (Kd.R_lower A6 (below_size (bl HB)));replace b2:=kB b2 hb;replace HB:=bB HB hb;clear hb A6) | ((with_reducible refine gate_dst (N:=3) rfl ?_);refine bx 3 #[.slice none 0 0] 35 ?_;intro i5 hg w9 hbox hb;have b4:=A_ hbox;have A7:=gw hg HB;have GE246:=A7;have e2:=nl hg b2;have h3:=ng hg b2;replace m1:=rB m1 hb;replace b2:=kB b2 hb;replace HB:=bB HB hb;clear hb hbox hg;obtain ⟨t5,t6,W2⟩:=Kd.R_slice m1.out;subst W2;have hnb11:=h3.out;have hnc11:=e2.out;have K6:w9.cell? ⟨i5,0,none⟩ = some (.slice none 0 0):=cz b4 0;have K7:=blk_frozen b4.out 0;have K8:w9.cell? ⟨e7,0,none⟩ = some (.slice j8 e6.length j9):=cz b2 0;have K9:w9.cell? ⟨e7,1,none⟩ = some (.slice l7 c1.length l5):=cz b2 1;have L0:=blk_frozen b2.out 0;have L1:=blk_frozen b2.out 1) | ((with_reducible refine gate_dst (N:=19) rfl ?_);refine Kd.R_make Kd.bool _ 4 rfl (N:=19) rfl 115 _ _ rfl (c1.length:Int) rfl rfl Try.underlying115 (.bool false) 1 info4 rfl (by decide) (by omega) false (ok:=fun _=>True) (okp:=fun _=>True) rfl (fun _ hk=>hk) trivial (of_decide_eq_true (by assumption)) (Nat.le_trans (Nat.mul_le_mul_right _ (of_decide_eq_true (by assumption):(c1.length:Int).toNat ≤ 281474976710656)) (by omega)) (Below.refl _ _) (Nat.le_refl _) ?_;intro v248 w14 p9 hb hg_ hnew_;clear hg_ hnew_;(first | rw [← s2.out] at p9 | (simp only [Int.reduceToNat] at p9;rw [← s2.out] at p9));have o7:=A_ (Kd.R_lower p9 (below_size (bl HB)));replace m1:=A_ (Kd.R_below (by exact (Kd.R_mono (Kd.R_far (p:=⟨i5,0,none⟩) (Kd.R_types m1.out b4.out (by decide)) (fun _ hk=>hk.2) (.slice t5 r1.length t6)) (fun _ h_=>h_.1))) hb);replace b2:=kB b2 hb;replace b4:=A_ (blk_below (g:=i5) (o:=.cells #[.slice t5 r1.length t6] 35 (0,0)) (by refine blk_put (cs:=#[.slice none 0 0]) ?_ 0 _ rfl;exact b4.out) hb);replace HB:=bB HB hb;clear hb p9) | ((with_reducible refine gate_dst (N:=4) rfl ?_);refine bx 4 #[.slice none 0 0] 115 ?_;intro i2 hg w16 hbox hb;have b3:=A_ hbox;have A8:=gw hg HB;have GE250:=A8;have e0:=nl hg b2;have h4:=ng hg b2;have h5:=nl hg b4;have e5:=ng hg b4;replace m1:=rB m1 hb;replace o7:=rB o7 hb;replace b2:=kB b2 hb;replace b4:=kB b4 hb;replace HB:=bB HB hb;clear hb hbox hg;obtain ⟨t7,t8,W3⟩:=Kd.R_slice o7.out;subst W3;have hnb18:=h4.out;have hnc18:=e0.out;have hnb19:=e5.out;have hnc19:=h5.out;have L2:w16.cell? ⟨i2,0,none⟩ = some (.slice none 0 0):=cz b3 0;have L3:=blk_frozen b3.out 0))
 go_loopg [] k (fun kq w'=>∃ (d2:List (S23)) (b7:List Bool) (e4:Value) (i4:Value),Aside0 (shares_net_fair.l0 kq e6 c1 d2 b7 = some r) ∧ Aside0 (kq ≤ k) ∧ Aside0 (Kd.R k23 23 w' w.heap.size (fun _=>True) e4 d2) ∧ Aside0 (Kd.R Kd.bool 4 w' w.heap.size (fun _=>True) i4 b7) ∧ Aside0 (w'.heap[e7]? = some (.cells #[(.slice j8 e6.length j9),(.slice l7 c1.length l5)] 109 (0,0))) ∧ Aside0 (w'.heap[i5]? = some (.cells #[e4] 35 (0,0))) ∧ Aside0 (w'.heap[i2]? = some (.cells #[i4] 115 (0,0))) ∧ Aside0 (Below w.heap.size w w'))
 case atStart=>exact ⟨(r1),(r2),(.slice t5 r1.length t6),(.slice t7 r2.length t8),H',⟨Nat.le_refl _⟩,⟨by exact Kd.R_mono (Kd.R_far (p:=⟨i2,0,none⟩) (Kd.R_types m1.out b3.out (by decide)) (fun _ hk=>hk.2) (.slice t7 r2.length t8)) (fun _ hk=>trivial)⟩,⟨by exact Kd.R_mono (Kd.R_far (p:=⟨i2,0,none⟩) (Kd.R_types o7.out b3.out (by decide)) (fun _ hk=>hk.2) (.slice t7 r2.length t8)) (fun _ hk=>trivial)⟩,⟨by refine blk_far ?_ e0.out _;exact b2.out⟩,⟨by refine blk_far ?_ h5.out _;exact b4.out⟩,⟨by refine blk_put (cs:=#[.slice none 0 0]) ?_ 0 _ rfl;exact b3.out⟩,⟨bl HB⟩⟩
 case round =>
  clear H'
  obtain ⟨d2,b7,e4,i4,HA,o1,b0,b1,b2,b4,b3,HB⟩:=hrel
  cases gk with
  | zero=>exact absurd HA.out (by simp [shares_net_fair.l0])
  | succ k1 =>
   have H:=HA.out
   clear HA
   simp only [shares_net_fair.l0] at H
   replace H:=Option.bind_eq_some_iff.mp H
   obtain ⟨r0,A9,H⟩:=H
   replace H:(if r0 = true then (shares_net_fair.l1 k1 (-1) (e6.length:Int) 0 e6 c1 d2 b7 0 0) else (some d2)) = some r:=H
   have A21:=A_ A9
   clear A9
   by_cases L4:r0 = true
   case neg =>
    replace L4:=Bool.eq_false_iff.mpr L4
    subst L4
    rw [if_neg (show ¬ (false = true) by decide)] at H
    obtain rfl:=Option.some.inj H
    have W4:=h4.out
    have W5:=e0.out
    have W6:=e5.out
    have W7:=h5.out
    have B0:wr.cell? ⟨i2,0,none⟩ = some (i4):=cz b3 0
    have C0:=blk_frozen b3.out 0
    obtain ⟨C1,C2,C3⟩:=Kd.R_slice b1.out
    subst C3
    go_wp2_with (first | ((with_reducible refine gate_callee (f:=105) rfl ?_);refine gL (some 22) Try.func105 #[.slice C1 b7.length C2,.bool false] ?_;(with_reducible refine (slices_Contains_bool_bool.calls k1 _ _ b7 false false _ ?side1 ?side2 A21.out).mono ?_);(case side1=>repeat (first | exact (Kd.R_reads' b1.out).2.2 | (with_reducible refine Kd.C_alloc ?_ _) | (with_reducible refine Kd.C_drewN ?_ _) | (with_reducible refine Kd.C_drew ?_)));(case side2=>exact (Kd.R_reads' b1.out).2.1);rintro e w' ⟨rfl,⟨nd,rfl⟩⟩;refine ⟨_,rfl,?_⟩;have W8:=h3.out;have W9:=e2.out;have C4:wr.cell? ⟨i5,0,none⟩ = some (e4):=cz b4 0;have C5:=blk_frozen b4.out 0))
    go_ret
    exact ⟨_,rfl,by exact b0.out,bl HB⟩
   subst L4
   rw [if_pos rfl] at H
   have H':=A_ H
   clear H
   have hnb23:=h4.out
   have hnc23:=e0.out
   have hnb24:=e5.out
   have hnc24:=h5.out
   have L5:wr.cell? ⟨i2,0,none⟩ = some (i4):=cz b3 0
   have L6:=blk_frozen b3.out 0
   obtain ⟨m2,m3,X0⟩:=Kd.R_slice b1.out
   subst X0
   go_wp2_with (first | ((with_reducible refine gate_callee (f:=105) rfl ?_);refine gL (some 22) Try.func105 #[.slice m2 b7.length m3,.bool false] ?_;(with_reducible refine (slices_Contains_bool_bool.calls k1 _ _ b7 false true _ ?side1 ?side2 A21.out).mono ?_);(case side1=>repeat (first | exact (Kd.R_reads' b1.out).2.2 | (with_reducible refine Kd.C_alloc ?_ _) | (with_reducible refine Kd.C_drewN ?_ _) | (with_reducible refine Kd.C_drew ?_)));(case side2=>exact (Kd.R_reads' b1.out).2.1);rintro e w' ⟨rfl,⟨nd,rfl⟩⟩;refine ⟨_,rfl,?_⟩;(try (rw [drewN_self wr];generalize hq_:World.drewN wr _ = wr;replace b0:Aside0 (Kd.R k23 23 wr w.heap.size (fun _=>True) e4 d2):=⟨by rw [← hq_];exact b0.out⟩;replace b1:Aside0 (Kd.R Kd.bool 4 wr w.heap.size (fun _=>True) (.slice m2 b7.length m3) b7):=⟨by rw [← hq_];exact b1.out⟩;replace b2:Aside0 (wr.heap[e7]? = some (.cells #[.slice j8 e6.length j9,.slice l7 c1.length l5] 109 (0,0))):=⟨by rw [← hq_];exact b2.out⟩;replace b4:Aside0 (wr.heap[i5]? = some (.cells #[e4] 35 (0,0))):=⟨by rw [← hq_];exact b4.out⟩;replace b3:Aside0 (wr.heap[i2]? = some (.cells #[.slice m2 b7.length m3] 115 (0,0))):=⟨by rw [← hq_];exact b3.out⟩;replace HB:Aside0 (Below w.heap.size w wr):=⟨by rw [← hq_];exact (bl HB)⟩;clear hq_))) | ((with_reducible refine gate_dst (N:=7) rfl ?_);refine bx 7 #[.int .i64 0,.int .i64 0] 23 ?_;intro d1 hg L7 hbox hb;have b5:=A_ hbox;have C6:=gw hg HB;have GE252:=C6;have d3:=nl hg b2;have e8:=ng hg b2;have d4:=nl hg b4;have e9:=ng hg b4;have d5:=nl hg b3;have h0:=ng hg b3;replace b0:=A_ (Kd.R_below (Kd.R_elderB b0.out d1 (Nat.le_of_eq hg.symm)) hb);replace b1:=rB b1 hb;replace b2:=kB b2 hb;replace b4:=kB b4 hb;replace b3:=kB b3 hb;replace HB:=bB HB hb;clear hb hbox hg;have hnb28:=e8.out;have hnc28:=d3.out;have hnb29:=e9.out;have hnc29:=d4.out;have hnb30:=h0.out;have hnc30:=d5.out;have L8:L7.cell? ⟨d1,0,none⟩ = some (.int .i64 0):=cz b5 0;have L9:L7.cell? ⟨d1,1,none⟩ = some (.int .i64 0):=cz b5 1;have M0:=blk_frozen b5.out 0;have M1:=blk_frozen b5.out 1;have hnb32:=e2.out;have hnc32:=h3.out;have M2:L7.cell? ⟨e7,0,none⟩ = some (.slice j8 e6.length j9):=cz b2 0;have M3:L7.cell? ⟨e7,1,none⟩ = some (.slice l7 c1.length l5):=cz b2 1;have M4:=blk_frozen b2.out 0;have M5:=blk_frozen b2.out 1))
   go_loopg [6,27] k1 (fun kq v6 v27 w'=>∃ (l9:Int) (i9:Int) (e1:Int) (d6:Int),v6 = .int .i64 l9 ∧ v27 = .int .i64 i9 ∧ Aside0 (shares_net_fair.l1 kq l9 (e6.length:Int) i9 e6 c1 d2 b7 e1 d6 = some r) ∧ Aside0 (kq ≤ k1) ∧ Aside0 (Kd.R k23 23 w' w.heap.size (fun k_=>k_ ≠ d1) e4 d2) ∧ Aside0 (Kd.R Kd.bool 4 w' w.heap.size (fun _=>True) (.slice m2 b7.length m3) b7) ∧ Aside0 (w'.heap[e7]? = some (.cells #[(.slice j8 e6.length j9),(.slice l7 c1.length l5)] 109 (0,0))) ∧ Aside0 (w'.heap[i5]? = some (.cells #[e4] 35 (0,0))) ∧ Aside0 (w'.heap[i2]? = some (.cells #[(.slice m2 b7.length m3)] 115 (0,0))) ∧ Aside0 (w'.heap[d1]? = some (.cells #[.int .i64 e1,.int .i64 d6] 23 (0,0))) ∧ Aside0 (Below w.heap.size w w'))
   case atStart=>exact ⟨((-1)),(0),(0),(0),rfl,rfl,H',⟨Nat.le_refl _⟩,⟨by exact Kd.R_mono (Kd.R_far (p:=⟨d1,1,none⟩) (Kd.R_far (p:=⟨d1,0,none⟩) (Kd.R_mono b0.out (fun k_ hk=>(⟨hk,hk.2⟩:_ ∧ k_ ≠ d1))) (fun _ hk=>hk.2) (.int .i64 0)) (fun _ hk=>hk.2) (.int .i64 0)) (fun _ hk=>hk.1.2)⟩,⟨by exact Kd.R_mono (Kd.R_far (p:=⟨d1,1,none⟩) (Kd.R_far (p:=⟨d1,0,none⟩) (Kd.R_types b1.out b5.out (by decide)) (fun _ hk=>hk.2) (.int .i64 0)) (fun _ hk=>hk.2) (.int .i64 0)) (fun _ hk=>trivial)⟩,⟨by refine blk_far ?_ d3.out _;refine blk_far ?_ d3.out _;exact b2.out⟩,⟨by refine blk_far ?_ d4.out _;refine blk_far ?_ d4.out _;exact b4.out⟩,⟨by refine blk_far ?_ d5.out _;refine blk_far ?_ d5.out _;exact b3.out⟩,⟨by refine blk_put (cs:=#[.int .i64 0,.int .i64 0]) ?_ 1 _ rfl;refine blk_put (cs:=#[.int .i64 0,.int .i64 0]) ?_ 0 _ rfl;exact b5.out⟩,⟨bl HB⟩⟩
   case round =>
    clear H'
    obtain ⟨l9,i9,e1,d6,rfl,rfl,HA,o2,b0,b1,b2,b4,b3,b5,HB⟩:=hrel
    cases gk with
    | zero=>exact absurd HA.out (by simp [shares_net_fair.l1])
    | succ k2 =>
     have H:=HA.out
     clear HA
     simp only [shares_net_fair.l1] at H
     by_cases z8:i9 < (e6.length:Int)
     case neg =>
      rw [if_neg z8] at H
      have C7:=decide_eq_false z8
      clear z8
      have H':=A_ H
      clear H
      have X1:=e2.out
      have X2:=h3.out
      have X3:=e0.out
      have X4:=h4.out
      have X5:=d3.out
      have X6:=e8.out
      have C8:wr.cell? ⟨e7,0,none⟩ = some (.slice j8 e6.length j9):=cz b2 0
      have C9:wr.cell? ⟨e7,1,none⟩ = some (.slice l7 c1.length l5):=cz b2 1
      have D0:=blk_frozen b2.out 0
      have D1:=blk_frozen b2.out 1
      go_wp2
      go_loopg [53] k2 (fun kq v53 w'=>∃ (b6:Int) (b8:List (S23)) (c0:List Bool) (d7:Int) (d8:Int) (e4:Value) (i4:Value),v53 = .int .i64 b6 ∧ Aside0 (shares_net_fair.l2 kq l9 (c1.length:Int) b6 e6 c1 b8 c0 d7 d8 = some r) ∧ Aside0 (kq ≤ k2) ∧ Aside0 (Kd.R k23 23 w' w.heap.size (fun k_=>k_ ≠ d1) e4 b8) ∧ Aside0 (Kd.R Kd.bool 4 w' w.heap.size (fun _=>True) i4 c0) ∧ Aside0 (w'.heap[e7]? = some (.cells #[(.slice j8 e6.length j9),(.slice l7 c1.length l5)] 109 (0,0))) ∧ Aside0 (w'.heap[i5]? = some (.cells #[e4] 35 (0,0))) ∧ Aside0 (w'.heap[i2]? = some (.cells #[i4] 115 (0,0))) ∧ Aside0 (w'.heap[d1]? = some (.cells #[.int .i64 d7,.int .i64 d8] 23 (0,0))) ∧ Aside0 (Below w.heap.size w w'))
      case atStart=>exact ⟨(0),(d2),(b7),(e1),(d6),(e4),(.slice m2 b7.length m3),rfl,H',⟨Nat.le_refl _⟩,⟨by exact b0.out⟩,⟨by exact b1.out⟩,⟨by exact b2.out⟩,⟨by exact b4.out⟩,⟨by exact b3.out⟩,⟨by exact b5.out⟩,⟨bl HB⟩⟩
      case round =>
       clear H'
       obtain ⟨b6,b8,c0,d7,d8,e4,i4,rfl,HA,s3,b0,b1,b2,b4,b3,b5,HB⟩:=hrel
       cases gk with
       | zero=>exact absurd HA.out (by simp [shares_net_fair.l2])
       | succ k3 =>
        have H:=HA.out
        clear HA
        simp only [shares_net_fair.l2] at H
        by_cases p4:b6 < (c1.length:Int)
        case neg =>
         rw [if_neg p4] at H
         have t9:=decide_eq_false p4
         clear p4
         have H':=A_ H
         clear H
         go_wp2
         go_roundg k3
         case measure=>have:=o1.out;have:=o2.out;have:=s3.out;omega
         case rel=>exact ⟨(b8),(c0),(e4),(i4),H',⟨by have:=o1.out;have:=o2.out;have:=s3.out;omega⟩,⟨by exact Kd.R_mono b0.out (fun _ hk=>trivial)⟩,⟨by exact b1.out⟩,⟨by exact b2.out⟩,⟨by exact b4.out⟩,⟨by exact b3.out⟩,⟨bl HB⟩⟩
        rw [if_pos p4] at H
        have t9:=decide_eq_true p4
        clear p4
        replace H:=gd H
        obtain ⟨D2,H⟩:=H
        have X7:=decide_eq_true D2
        clear D2
        replace H:=gd H
        obtain ⟨D3,H⟩:=H
        have X8:=decide_eq_true D3
        clear D3
        obtain ⟨s4,o3⟩:∃ b_:Bool,b_ = (rdOf false c0 b6):=⟨_,rfl⟩
        replace H:(if s4 = true then (shares_net_fair.l2 k3 l9 (c1.length:Int) (wrap64 (b6 + 1)) e6 c1 b8 c0 d7 d8) else ((shares_net_has.f k3 e6 c1 b6 l9).bind fun p3=>(if p3 = true then (if b6 < (c1.length:Int) then ((shares_times.f k3 d7 d8 ((rd_T45 c1 b6).f0)).bind fun m0=>(if b6 < (b8.length:Int) then (shares_net_fair.l2 k3 l9 (c1.length:Int) (wrap64 (b6 + 1)) e6 c1 (b8.set (b6:Int).toNat (⟨m0.1,m0.2⟩:S23)) (c0.set (b6:Int).toNat true) d7 d8) else (none))) else (none)) else (shares_net_fair.l2 k3 l9 (c1.length:Int) (wrap64 (b6 + 1)) e6 c1 b8 c0 d7 d8)))) = some r:=by rw [← o3] at H;exact H
        have o4:=A_ o3
        clear o3
        by_cases r3:s4 = true
        ·subst r3
         rw [if_pos rfl] at H
         have H':=A_ H
         clear H
         have X9:=h4.out
         have Y0:=e0.out
         have Y1:=e5.out
         have Y2:=h5.out
         have Y3:=d5.out
         have Y4:=h0.out
         have D4:wr.cell? ⟨i2,0,none⟩ = some (i4):=cz b3 0
         have D5:=blk_frozen b3.out 0
         obtain ⟨Ao132,D6,D7⟩:=Kd.R_slice b1.out
         subst D7
         have m8:0 ≤ (b6:Int):=of_decide_eq_true (by assumption)
         have m9:b6 < (c0.length:Int):=of_decide_eq_true (by assumption)
         obtain ⟨n0,q0,l8⟩:=Kd.at_bool (Kd.R_reads' b1.out).2.2 b6 m8 m9
         (try rw [← o4.out] at l8)
         cases q0
         replace m8:=eq_true m8
         replace m9:=eq_true m9
         have Y5:=h3.out
         have Y6:=e2.out
         have Y7:=d4.out
         have Y8:=e9.out
         have D8:wr.cell? ⟨i5,0,none⟩ = some (e4):=cz b4 0
         have D9:=blk_frozen b4.out 0
         obtain ⟨E0,E1,E2⟩:=Kd.R_slice b0.out
         subst E2
         go_wp2
         go_roundg k3
         case measure=>have:=o1.out;have:=o2.out;have:=s3.out;omega
         case rel=>exact ⟨(wrap64 (b6 + 1)),(b8),(c0),(d7),(d8),(.slice E0 b8.length E1),(.slice (some n0) c0.length D6),rfl,H',⟨by have:=o1.out;have:=o2.out;have:=s3.out;omega⟩,⟨by exact b0.out⟩,⟨by exact b1.out⟩,⟨by exact b2.out⟩,⟨by exact b4.out⟩,⟨by exact b3.out⟩,⟨by exact b5.out⟩,⟨bl HB⟩⟩
        replace r3:=Bool.eq_false_iff.mpr r3
        subst r3
        rw [if_neg (show ¬ (false = true) by decide)] at H
        replace H:=Option.bind_eq_some_iff.mp H
        obtain ⟨p3,s5,H⟩:=H
        replace H:(if p3 = true then (if b6 < (c1.length:Int) then ((shares_times.f k3 d7 d8 ((rd_T45 c1 b6).f0)).bind fun m0=>(if b6 < (b8.length:Int) then (shares_net_fair.l2 k3 l9 (c1.length:Int) (wrap64 (b6 + 1)) e6 c1 (b8.set (b6:Int).toNat (⟨m0.1,m0.2⟩:S23)) (c0.set (b6:Int).toNat true) d7 d8) else (none))) else (none)) else (shares_net_fair.l2 k3 l9 (c1.length:Int) (wrap64 (b6 + 1)) e6 c1 b8 c0 d7 d8)) = some r:=H
        have E3:=A_ s5
        clear s5
        by_cases r4:p3 = true
        case neg =>
         replace r4:=Bool.eq_false_iff.mpr r4
         subst r4
         rw [if_neg (show ¬ (false = true) by decide)] at H
         have H':=A_ H
         clear H
         have Y9:=h4.out
         have Z0:=e0.out
         have Z1:=e5.out
         have Z2:=h5.out
         have Z3:=d5.out
         have Z4:=h0.out
         have E4:wr.cell? ⟨i2,0,none⟩ = some (i4):=cz b3 0
         have E5:=blk_frozen b3.out 0
         obtain ⟨Ao167,s6,E6⟩:=Kd.R_slice b1.out
         subst E6
         have m8:0 ≤ (b6:Int):=of_decide_eq_true (by assumption)
         have m9:b6 < (c0.length:Int):=of_decide_eq_true (by assumption)
         obtain ⟨n0,q0,l8⟩:=Kd.at_bool (Kd.R_reads' b1.out).2.2 b6 m8 m9
         (try rw [← o4.out] at l8)
         cases q0
         replace m8:=eq_true m8
         replace m9:=eq_true m9
         have Z5:=e2.out
         have Z6:=h3.out
         have Z7:=d3.out
         have Z8:=e8.out
         have E7:wr.cell? ⟨e7,0,none⟩ = some (.slice j8 e6.length j9):=cz b2 0
         have E8:wr.cell? ⟨e7,1,none⟩ = some (.slice l7 c1.length l5):=cz b2 1
         have E9:=blk_frozen b2.out 0
         have F0:=blk_frozen b2.out 1
         go_wp2_with (first | (go_at_call 104;(with_reducible refine (shares_net_has.calls k3 _ _ e6 _ _ c1 b6 l9 false _ ?side1 ?side2 ?side3 ?side4 E3.out).mono ?_);(case side1=>exact cB n3 HB);(case side2=>exact n4.out);(case side3=>exact cB m7 HB);(case side4=>exact n5.out);rintro e F1 ⟨rfl,hb⟩;replace b0:=rB b0 hb;replace b1:=rB b1 hb;replace b2:=kB b2 hb;replace b4:=kB b4 hb;replace b3:=kB b3 hb;replace b5:=kB b5 hb;replace HB:=bB HB hb;(try clear hb);have F2:F1.cell? ⟨i2,0,none⟩ = some (.slice (some n0) c0.length s6):=cz b3 0;have F3:=blk_frozen b3.out 0;have Z9:=d4.out;have ba0:=e9.out;have F4:F1.cell? ⟨i5,0,none⟩ = some (e4):=cz b4 0;have F5:=blk_frozen b4.out 0;obtain ⟨F6,F7,F8⟩:=Kd.R_slice b0.out;subst F8))
         go_roundg k3
         case measure=>have:=o1.out;have:=o2.out;have:=s3.out;omega
         case rel=>exact ⟨(wrap64 (b6 + 1)),(b8),(c0),(d7),(d8),(.slice F6 b8.length F7),(.slice (some n0) c0.length s6),rfl,H',⟨by have:=o1.out;have:=o2.out;have:=s3.out;omega⟩,⟨by exact b0.out⟩,⟨by exact b1.out⟩,⟨by exact b2.out⟩,⟨by exact b4.out⟩,⟨by exact b3.out⟩,⟨by exact b5.out⟩,⟨bl HB⟩⟩
        subst r4
        rw [if_pos rfl] at H
        replace H:=gd H
        obtain ⟨F9,H⟩:=H
        have ba1:=decide_eq_true F9
        clear F9
        replace H:=Option.bind_eq_some_iff.mp H
        obtain ⟨⟨p5,p6⟩,A1400,H⟩:=H
        dsimp only at H
        have ba2:=A_ A1400
        clear A1400
        obtain ⟨G0,q1⟩:∃ y_:List Bool,y_ = (c0.set (b6:Int).toNat true):=⟨_,rfl⟩
        rw [← q1] at H
        have G1:=A_ q1
        clear q1
        replace H:=gd H
        obtain ⟨G2,H⟩:=H
        have ba3:=decide_eq_true G2
        clear G2
        obtain ⟨ba4,q2⟩:∃ y_:List (S23),y_ = (b8.set (b6:Int).toNat (⟨p5,p6⟩:S23)):=⟨_,rfl⟩
        rw [← q2] at H
        have G3:=A_ q2
        clear q2
        have H':=A_ H
        clear H
        have ba5:=h4.out
        have ba6:=e0.out
        have ba7:=e5.out
        have ba8:=h5.out
        have ba9:=d5.out
        have bb0:=h0.out
        have G4:wr.cell? ⟨i2,0,none⟩ = some (i4):=cz b3 0
        have G5:=blk_frozen b3.out 0
        obtain ⟨Ao148,n8,G6⟩:=Kd.R_slice b1.out
        subst G6
        have m8:0 ≤ (b6:Int):=of_decide_eq_true (by assumption)
        have m9:b6 < (c0.length:Int):=of_decide_eq_true (by assumption)
        obtain ⟨n0,q0,l8⟩:=Kd.at_bool (Kd.R_reads' b1.out).2.2 b6 m8 m9
        (try rw [← o4.out] at l8)
        cases q0
        replace m8:=eq_true m8
        replace m9:=eq_true m9
        have bb1:=e2.out
        have bb2:=h3.out
        have bb3:=d3.out
        have bb4:=e8.out
        have G7:wr.cell? ⟨e7,0,none⟩ = some (.slice j8 e6.length j9):=cz b2 0
        have G8:wr.cell? ⟨e7,1,none⟩ = some (.slice l7 c1.length l5):=cz b2 1
        have G9:=blk_frozen b2.out 0
        have H0:=blk_frozen b2.out 1
        try go_wp2_with (first | (go_at_call 104;(with_reducible refine (shares_net_has.calls k3 _ _ e6 _ _ c1 b6 l9 true _ ?side1 ?side2 ?side3 ?side4 E3.out).mono ?_);(case side1=>exact cB n3 HB);(case side2=>exact n4.out);(case side3=>exact cB m7 HB);(case side4=>exact n5.out);rintro e x0 ⟨rfl,hb⟩;replace b0:=rB b0 hb;replace b1:=rB b1 hb;replace b2:=kB b2 hb;replace b4:=kB b4 hb;replace b3:=kB b3 hb;replace b5:=kB b5 hb;replace HB:=bB HB hb;(try clear hb);have H1:x0.cell? ⟨i2,0,none⟩ = some (.slice (some n0) c0.length n8):=cz b3 0;have H2:=blk_frozen b3.out 0;have bb5:=d4.out;have bb6:=e9.out;have H3:x0.cell? ⟨i5,0,none⟩ = some (e4):=cz b4 0;have H4:=blk_frozen b4.out 0;obtain ⟨q3,o8,H5⟩:=Kd.R_slice b0.out;subst H5))
        replace b0:=rD b0
        replace b1:=rD b1
        replace b2:=kD b2
        replace b4:=kD b4
        replace b3:=kD b3
        replace b5:=kD b5
        replace HB:=bD HB
        have x1:0 ≤ (b6:Int):=of_decide_eq_true (by assumption)
        have x2:b6 < (c1.length:Int):=of_decide_eq_true (by assumption)
        obtain ⟨n9,x3,x4,bb7,m4,m5,o9,p0⟩:=at_T45 m7.out b6 x1 x2
        have n6:=m5
        have n7:=m4
        cases bb7
        replace m4:=cT HB m4
        replace m5:=cT HB m5
        have r5:=A_ p0
        have M6:=A_ o9
        clear p0 o9
        replace x1:=eq_true x1
        replace x2:=eq_true x2
        refine start_ (n:=16) (S:=fun w'=>w'.cell? ⟨i2,0,none⟩ = some (.slice (some n0) c0.length n8) ∧ w'.cell? ⟨d1,0,none⟩ = some (.int .i64 d7) ∧ w'.cell? ⟨d1,1,none⟩ = some (.int .i64 d8) ∧ w'.cell? ⟨e7,0,none⟩ = some (.slice j8 e6.length j9) ∧ w'.cell? ⟨e7,1,none⟩ = some (.slice (some n9) c1.length l5) ∧ w'.cell? (n9.add ((b6).toNat * 2)) = some (.int .i64 ((rd_T45 c1 b6).f0)) ∧ w'.cell? ⟨(n9.add ((b6).toNat * 2)).block,(n9.add ((b6).toNat * 2)).off + 1,none⟩ = some (.slice x3 ((rd_T45 c1 b6).f1).length x4) ∧ w'.cell? ⟨i5,0,none⟩ = some (.slice q3 b8.length o8)) (ds:=[15]) (ba 16 0) (by kernel_rfl) rfl rfl ⟨cz b3 0,cz b5 0,cz b5 1,cz b2 0,cz b2 1,(cT HB n7),(cT HB n6),cz b4 0⟩ (fun hHeld=>?_)
        generalize x0.drew = w157 at b0 b1 b2 b4 b3 b5 HB r5 m4 m5 hHeld ⊢
        refine pr 3 70 8 ?_
        refine tr 2 69 12 hHeld ?_
        refine pr 1 68 14 ?_
        refine pr 5 72 46 ?_
        refine pr 7 74 174 ?_
        refine tr 0 67 175 hHeld ?_
        refine tr 4 71 191 hHeld ?_
        refine tr 6 73 255 hHeld ?_
        refine pr 8 75 511 ?_
        refine pr 9 76 1023 ?_
        refine tr 10 77 2047 hHeld ?_
        refine os 11 78 4095 (fun K hK=>?_)
        refine gq Try.func106 #[.agg #[.int .i64 d7,.int .i64 d8],.int .i64 ((rd_T45 c1 b6).f0)] ?_
        with_reducible refine (shares_times.calls k3 d7 d8 ((rd_T45 c1 b6).f0) p5 p6 _ ba2.out).mono ?_
        rintro e o0 ⟨rfl,hb⟩
        refine ⟨_,rfl,?_⟩
        replace b0:=rB b0 hb
        replace b1:=rB b1 hb
        replace b2:=kB b2 hb
        replace b4:=kB b4 hb
        replace b3:=kB b3 hb
        replace b5:=kB b5 hb
        replace HB:=bB HB hb
        (try clear hb)
        have x5:0 ≤ (b6:Int):=of_decide_eq_true (by assumption)
        have x7:(b6:Int) < ((c0.length:Int):Int):=of_decide_eq_true (by assumption)
        obtain ⟨l6,co141,s7,s8,H6,cl141,s9⟩:=Kd.R_form b1.out (by omega)
        (first | cases s7 | (injection s7 with ea_ en_ ec_;(first | subst ea_ | (injection ea_ with ea_;subst ea_));subst ec_;clear en_))
        have GB141:=A_ s8
        have H7:=A_ s9
        clear s8 H6 s9
        (first | simp only [add_plain] at l8 | skip)
        obtain ⟨M7,M8⟩:=Kd.R_celln false b1.out (b6:Int) x5 x7
        replace x5:=eq_true x5
        replace x7:=eq_true x7
        have q4:=Kd.R_putn b1.out (b6:Int) true
        rw [← G1.out] at q4
        have H8:=A_ q4
        clear q4
        refine hK.out _ _ ⟨cz b3 0,cz b5 0,cz b5 1,cz b2 0,cz b2 1,(cT HB n7),(cT HB n6),cz b4 0⟩ (fun hHeld=>?_)
        clear hK K
        refine nq 78 ?_
        refine pr 12 79 8191 ?_
        refine one_ (i:=13) (N:=none) (ba 16 16383) rfl rfl (by kernel_rfl) (by decide) (fun K hK=>?_)
        refine skip_ (w1:=?_) (by rfl) rfl ?_ ?_
        rotate_left
        ·go_simp
         rfl
        have x8:Aside0 (Kd.R k23 23 (o0.setCell ⟨l6,(b6:Int).toNat,none⟩ (.bool true)) w.heap.size (fun k_=>k_ ≠ d1) (.slice q3 b8.length o8) b8):=⟨by exact Kd.R_mono (Kd.R_far (p:=⟨l6,(b6:Int).toNat,none⟩) (Kd.R_types b0.out H7.out (by decide)) (fun _ hk=>hk.2) (.bool true)) (fun _ hk=>hk.1)⟩
        have x9:Aside0 (Kd.R Kd.bool 4 (o0.setCell ⟨l6,(b6:Int).toNat,none⟩ (.bool true)) w.heap.size (fun _=>True) (.slice (some ⟨l6,0,none⟩) c0.length n8) G0):=⟨by exact H8.out⟩
        have y9:Aside0 ((o0.setCell ⟨l6,(b6:Int).toNat,none⟩ (.bool true)).heap[e7]? = some (.cells #[.slice j8 e6.length j9,.slice (some n9) c1.length l5] 109 (0,0))):=⟨by refine blk_far ?_ (by have h_:=Kd.R_ne b1.out b2.out (by decide);intro e_;exact h_ (by rw [e_];rfl)) _;exact b2.out⟩
        have z0:Aside0 ((o0.setCell ⟨l6,(b6:Int).toNat,none⟩ (.bool true)).heap[i5]? = some (.cells #[.slice q3 b8.length o8] 35 (0,0))):=⟨by refine blk_far ?_ (by have h_:=Kd.R_ne b1.out b4.out (by decide);intro e_;exact h_ (by rw [e_];rfl)) _;exact b4.out⟩
        have z1:Aside0 ((o0.setCell ⟨l6,(b6:Int).toNat,none⟩ (.bool true)).heap[i2]? = some (.cells #[.slice (some ⟨l6,0,none⟩) c0.length n8] 115 (0,0))):=⟨by refine blk_far ?_ (by have h_:=Kd.R_ne b1.out b3.out (by decide);intro e_;exact h_ (by rw [e_];rfl)) _;exact b3.out⟩
        have z2:Aside0 ((o0.setCell ⟨l6,(b6:Int).toNat,none⟩ (.bool true)).heap[d1]? = some (.cells #[.int .i64 d7,.int .i64 d8] 23 (0,0))):=⟨by refine blk_far ?_ (by have h_:=Kd.R_ne b1.out b5.out (by decide);intro e_;exact h_ (by rw [e_];rfl)) _;exact b5.out⟩
        have z3:Aside0 (Below w.heap.size w (o0.setCell ⟨l6,(b6:Int).toNat,none⟩ (.bool true))):=⟨bl HB⟩
        generalize (o0.setCell ⟨l6,(b6:Int).toNat,none⟩ (.bool true)) = w160 at x8 x9 y9 z0 z1 z2 z3 ⊢
        have b0:=x8
        have b1:=x9
        have b2:=y9
        have b4:=z0
        have b3:=z1
        have b5:=z2
        have HB:=z3
        clear x8 x9 y9 z0 z1 z2 z3
        refine hK.out _ _ ⟨cz b3 0,cz b5 0,cz b5 1,cz b2 0,cz b2 1,(cT HB n7),(cT HB n6),cz b4 0⟩ (fun hHeld=>?_)
        clear hK K
        have z4:0 ≤ (b6:Int):=of_decide_eq_true (by assumption)
        have z5:(b6:Int) < ((b8.length:Int):Int):=of_decide_eq_true (by assumption)
        obtain ⟨n1,co143,t0,t1,H9,cl143,t2⟩:=Kd.R_form b0.out (by omega)
        (first | cases t0 | (injection t0 with ea_ en_ ec_;(first | subst ea_ | (injection ea_ with ea_;subst ea_));subst ec_;clear en_))
        have GB143:=A_ t1
        have I0:=A_ t2
        clear t1 H9 t2
        obtain ⟨ce143,z6,t3,o5,o6⟩:=Kd.R_elem b0.out z23 (b6:Int) z4 z5
        obtain rfl:=k23_openM t3
        have M9:World.cell? _ ⟨n1,(b6:Int).toNat * 2,none⟩ = some (.int .i64 ((rd_T23 b8 b6).f0)):=o5 0 _ rfl
        have N0:World.cell? _ ⟨n1,(b6:Int).toNat * 2 + 1,none⟩ = some (.int .i64 ((rd_T23 b8 b6).f1)):=o5 1 _ rfl
        have N1:World.frozen? _ ⟨n1,(b6:Int).toNat * 2,none⟩ = false:=o6 0
        have N2:World.frozen? _ ⟨n1,(b6:Int).toNat * 2 + 1,none⟩ = false:=o6 1
        clear z6 o5 o6 t3
        replace z4:=eq_true z4
        replace z5:=eq_true z5
        obtain ⟨ce162,q5,t4,q6,z7⟩:=Kd.R_elem b0.out z23 (b6:Int) (of_decide_eq_true (by assumption)) (by have h_:(b6:Int) < ((b8.length:Int):Int):=of_decide_eq_true (by assumption);first | exact h_ | (have e_:=(Kd.R_reads' b0.out).1;omega) | simpa using h_)
        obtain rfl:=k23_openM t4
        have q7:=(Kd.R_seg b0.out (b6:Int) (of_decide_eq_true (by assumption)) (by have h_:(b6:Int) < ((b8.length:Int):Int):=of_decide_eq_true (by assumption);first | exact h_ | (have e_:=(Kd.R_reads' b0.out).1;omega) | simpa using h_) (seg:=[.int .i64 p5,.int .i64 p6]) (j:=0) q5 q6 (show 2 ≤ 2 from by decide) (x':=(⟨p5,p6⟩:S23)) (k23_mkM _ _ _ (⟨p5,p6⟩:S23) ) (fun _ hk=>hk)).1
        rw [← G3.out] at q7
        have I1:=A_ q7
        clear q5 q6 z7 t4 q7
        refine pr 14 80 32767 ?_
        refine last_ (i:=15) (N:=none) (ba 16 65535) rfl rfl (by kernel_rfl) (by decide) (fun K hK=>?_)
        refine skip_ (w1:=?_) (by rfl) rfl ?_ ?_
        rotate_left
        ·go_simp
         rfl
        refine hK.out _ _ ?_
        clear hK K
        refine done_ (by kernel_rfl) ?_
        try go_wp2
        go_roundg k3
        case measure=>have:=o1.out;have:=o2.out;have:=s3.out;omega
        case rel=>exact ⟨(wrap64 (b6 + 1)),(ba4),(G0),(d7),(d8),(.slice (some ⟨n1,0,none⟩) b8.length o8),(.slice (some ⟨l6,0,none⟩) c0.length n8),rfl,H',⟨by have:=o1.out;have:=o2.out;have:=s3.out;omega⟩,⟨by exact I1.out⟩,⟨by exact Kd.R_mono (Kd.R_far (p:=⟨n1,(b6:Int).toNat * 2 + 1,none⟩) (Kd.R_far (p:=⟨n1,(b6:Int).toNat * 2,none⟩) (Kd.R_types b1.out I0.out (by decide)) (fun _ hk=>hk.2) (.int .i64 p5)) (fun _ hk=>hk.2) (.int .i64 p6)) (fun _ hk=>trivial)⟩,⟨by refine blk_far ?_ (by have h_:=Kd.R_ne b0.out b2.out (by decide);intro e_;exact h_ (by rw [e_];rfl)) _;refine blk_far ?_ (by have h_:=Kd.R_ne b0.out b2.out (by decide);intro e_;exact h_ (by rw [e_];rfl)) _;exact b2.out⟩,⟨by refine blk_far ?_ (by have h_:=Kd.R_ne b0.out b4.out (by decide);intro e_;exact h_ (by rw [e_];rfl)) _;refine blk_far ?_ (by have h_:=Kd.R_ne b0.out b4.out (by decide);intro e_;exact h_ (by rw [e_];rfl)) _;exact b4.out⟩,⟨by refine blk_far ?_ (by have h_:=Kd.R_ne b0.out b3.out (by decide);intro e_;exact h_ (by rw [e_];rfl)) _;refine blk_far ?_ (by have h_:=Kd.R_ne b0.out b3.out (by decide);intro e_;exact h_ (by rw [e_];rfl)) _;exact b3.out⟩,⟨by refine blk_far ?_ (by have h_:=Kd.R_away b0.out (fun _ hk=>hk);intro e_;exact h_ (by rw [e_];rfl)) _;refine blk_far ?_ (by have h_:=Kd.R_away b0.out (fun _ hk=>hk);intro e_;exact h_ (by rw [e_];rfl)) _;exact b5.out⟩,⟨bl HB⟩⟩
     rw [if_pos z8] at H
     have C7:=decide_eq_true z8
     clear z8
     replace H:=Option.bind_eq_some_iff.mp H
     obtain ⟨⟨h9,i3,bb8⟩,A350,H⟩:=H
     dsimp only at H
     have N3:=A_ A350
     clear A350
     by_cases N4:bb8 = true
     case neg =>
      replace N4:=Bool.eq_false_iff.mpr N4
      subst N4
      rw [if_neg (show ¬ (false = true) by decide)] at H
      have H':=A_ H
      clear H
      have bb9:=h3.out
      have bc0:=e2.out
      have bc1:=h5.out
      have bc2:=e5.out
      have bc3:=d4.out
      have bc4:=e9.out
      have I2:wr.cell? ⟨i5,0,none⟩ = some (e4):=cz b4 0
      have I3:=blk_frozen b4.out 0
      have bc5:=h4.out
      have bc6:=e0.out
      have bc7:=d5.out
      have bc8:=h0.out
      have I4:wr.cell? ⟨i2,0,none⟩ = some (.slice m2 b7.length m3):=cz b3 0
      have I5:=blk_frozen b3.out 0
      have bc9:=d3.out
      have bd0:=e8.out
      have I6:wr.cell? ⟨e7,0,none⟩ = some (.slice j8 e6.length j9):=cz b2 0
      have I7:wr.cell? ⟨e7,1,none⟩ = some (.slice l7 c1.length l5):=cz b2 1
      have I8:=blk_frozen b2.out 0
      have I9:=blk_frozen b2.out 1
      obtain ⟨Ao111,co111,J0⟩:=Kd.R_slice b0.out
      subst J0
      go_wp2_with (first | (go_at_call 103;(with_reducible refine (shares_net_fair_1.calls k2 i9 _ _ e6 _ _ c1 _ _ b7 _ _ d2 h9 i3 false _ e7 i2 i5 b2.out b3.out b4.out e0.out e2.out e5.out ?side1 ?side2 ?side3 ?side4 ?side5 ?side6 ?side7 ?side8 N3.out).mono ?_);(case side1=>exact cB n3 HB);(case side2=>exact n4.out);(case side3=>exact cB m7 HB);(case side4=>exact n5.out);(case side5=>repeat (first | exact (Kd.R_reads' b1.out).2.2 | (with_reducible refine Kd.C_alloc ?_ _) | (with_reducible refine Kd.C_drewN ?_ _) | (with_reducible refine Kd.C_drew ?_)));(case side6=>exact (Kd.R_reads' b1.out).2.1);(case side7=>repeat (first | exact (Kd.R_reads' b0.out).2.2 | (with_reducible refine Kd.C_alloc ?_ _) | (with_reducible refine Kd.C_drewN ?_ _) | (with_reducible refine Kd.C_drew ?_)));(case side8=>exact (Kd.R_reads' b0.out).2.1);rintro e w112 ⟨rfl,hb⟩;replace b0:=rB b0 hb;replace b1:=rB b1 hb;replace b2:=kB b2 hb;replace b4:=kB b4 hb;replace b3:=kB b3 hb;replace b5:=kB b5 hb;replace HB:=bB HB hb;(try clear hb)) | ((with_reducible refine gate_dst (N:=9) rfl ?_);refine bx 9 #[.int .i64 0,.int .i64 0] 23 ?_;intro b9 hg J1 hbox hb;have d9:=A_ hbox;have n2:=gw hg HB;have q8:=n2;have h6:=nl hg b2;have i6:=ng hg b2;have h7:=nl hg b4;have i7:=ng hg b4;have h8:=nl hg b3;have i8:=ng hg b3;have e3:=nl hg b5;have d0:=ng hg b5;replace b0:=A_ (Kd.R_below (Kd.R_elderB b0.out b9 (Nat.le_of_eq hg.symm)) hb);replace b1:=rB b1 hb;replace b2:=kB b2 hb;replace b4:=kB b4 hb;replace b3:=kB b3 hb;replace b5:=kB b5 hb;replace HB:=bB HB hb;clear hb hbox hg;have bd1:=i6.out;have bd2:=h6.out;have bd3:=i7.out;have bd4:=h7.out;have bd5:=i8.out;have bd6:=h8.out;have bd7:=d0.out;have bd8:=e3.out;have J2:J1.cell? ⟨b9,0,none⟩ = some (.int .i64 0):=cz d9 0;have J3:J1.cell? ⟨b9,1,none⟩ = some (.int .i64 0):=cz d9 1;have J4:=blk_frozen d9.out 0;have J5:=blk_frozen d9.out 1))
      go_roundg k2
      case measure=>have:=o1.out;have:=o2.out;omega
      case rel=>exact ⟨(l9),(wrap64 (i9 + 1)),(e1),(d6),rfl,rfl,H',⟨by have:=o1.out;have:=o2.out;omega⟩,⟨by exact Kd.R_mono (Kd.R_far (p:=⟨b9,1,none⟩) (Kd.R_far (p:=⟨b9,0,none⟩) (Kd.R_mono b0.out (fun k_ hk=>(⟨hk,hk.2⟩:_ ∧ k_ ≠ b9))) (fun _ hk=>hk.2) (.int .i64 h9)) (fun _ hk=>hk.2) (.int .i64 i3)) (fun _ hk=>hk.1.1)⟩,⟨by exact Kd.R_mono (Kd.R_far (p:=⟨b9,1,none⟩) (Kd.R_far (p:=⟨b9,0,none⟩) (Kd.R_types b1.out d9.out (by decide)) (fun _ hk=>hk.2) (.int .i64 h9)) (fun _ hk=>hk.2) (.int .i64 i3)) (fun _ hk=>trivial)⟩,⟨by refine blk_far ?_ h6.out _;refine blk_far ?_ h6.out _;exact b2.out⟩,⟨by refine blk_far ?_ h7.out _;refine blk_far ?_ h7.out _;exact b4.out⟩,⟨by refine blk_far ?_ h8.out _;refine blk_far ?_ h8.out _;exact b3.out⟩,⟨by refine blk_far ?_ e3.out _;refine blk_far ?_ e3.out _;exact b5.out⟩,⟨bl HB⟩⟩
     subst N4
     rw [if_pos rfl] at H
     by_cases z9:l9 < 0
     ·rw [if_pos z9] at H
      have J6:=decide_eq_true z9
      clear z9
      have H':=A_ H
      clear H
      have hnb38:=h3.out
      have hnc38:=e2.out
      have hnb39:=h5.out
      have hnc39:=e5.out
      have hnb40:=d4.out
      have hnc40:=e9.out
      have N5:wr.cell? ⟨i5,0,none⟩ = some (e4):=cz b4 0
      have N6:=blk_frozen b4.out 0
      have hnb42:=h4.out
      have hnc42:=e0.out
      have hnb43:=d5.out
      have hnc43:=h0.out
      have N7:wr.cell? ⟨i2,0,none⟩ = some (.slice m2 b7.length m3):=cz b3 0
      have N8:=blk_frozen b3.out 0
      have hnb45:=d3.out
      have hnc45:=e8.out
      have N9:wr.cell? ⟨e7,0,none⟩ = some (.slice j8 e6.length j9):=cz b2 0
      have O0:wr.cell? ⟨e7,1,none⟩ = some (.slice l7 c1.length l5):=cz b2 1
      have O1:=blk_frozen b2.out 0
      have O2:=blk_frozen b2.out 1
      obtain ⟨J7,J8,bd9⟩:=Kd.R_slice b0.out
      subst bd9
      try go_wp2_with (first | (go_at_call 103;(with_reducible refine (shares_net_fair_1.calls k2 i9 _ _ e6 _ _ c1 _ _ b7 _ _ d2 h9 i3 true _ e7 i2 i5 b2.out b3.out b4.out e0.out e2.out e5.out ?side1 ?side2 ?side3 ?side4 ?side5 ?side6 ?side7 ?side8 N3.out).mono ?_);(case side1=>exact cB n3 HB);(case side2=>exact n4.out);(case side3=>exact cB m7 HB);(case side4=>exact n5.out);(case side5=>repeat (first | exact (Kd.R_reads' b1.out).2.2 | (with_reducible refine Kd.C_alloc ?_ _) | (with_reducible refine Kd.C_drewN ?_ _) | (with_reducible refine Kd.C_drew ?_)));(case side6=>exact (Kd.R_reads' b1.out).2.1);(case side7=>repeat (first | exact (Kd.R_reads' b0.out).2.2 | (with_reducible refine Kd.C_alloc ?_ _) | (with_reducible refine Kd.C_drewN ?_ _) | (with_reducible refine Kd.C_drew ?_)));(case side8=>exact (Kd.R_reads' b0.out).2.1);rintro e w48 ⟨rfl,hb⟩;replace b0:=rB b0 hb;replace b1:=rB b1 hb;replace b2:=kB b2 hb;replace b4:=kB b4 hb;replace b3:=kB b3 hb;replace b5:=kB b5 hb;replace HB:=bB HB hb;(try clear hb)) | ((with_reducible refine gate_dst (N:=9) rfl ?_);refine bx 9 #[.int .i64 0,.int .i64 0] 23 ?_;intro b9 hg q9 hbox hb;have d9:=A_ hbox;have n2:=gw hg HB;have q8:=n2;have h6:=nl hg b2;have i6:=ng hg b2;have h7:=nl hg b4;have i7:=ng hg b4;have h8:=nl hg b3;have i8:=ng hg b3;have e3:=nl hg b5;have d0:=ng hg b5;replace b0:=A_ (Kd.R_below (Kd.R_elderB b0.out b9 (Nat.le_of_eq hg.symm)) hb);replace b1:=rB b1 hb;replace b2:=kB b2 hb;replace b4:=kB b4 hb;replace b3:=kB b3 hb;replace b5:=kB b5 hb;replace HB:=bB HB hb;clear hb hbox hg;have hnb50:=i6.out;have hnc50:=h6.out;have hnb51:=i7.out;have hnc51:=h7.out;have hnb52:=i8.out;have hnc52:=h8.out;have hnb53:=d0.out;have hnc53:=e3.out;have O3:q9.cell? ⟨b9,0,none⟩ = some (.int .i64 0):=cz d9 0;have O4:q9.cell? ⟨b9,1,none⟩ = some (.int .i64 0):=cz d9 1;have O5:=blk_frozen d9.out 0;have O6:=blk_frozen d9.out 1))
      have x8:Aside0 (Kd.R k23 23 ((q9.setCell ⟨b9,0,none⟩ (.int .i64 h9)).setCell ⟨b9,1,none⟩ (.int .i64 i3)) w.heap.size (fun k_=>k_ ≠ d1 ∧ k_ ≠ b9) (.slice J7 d2.length J8) d2):=⟨by exact Kd.R_mono (Kd.R_far (p:=⟨b9,1,none⟩) (Kd.R_far (p:=⟨b9,0,none⟩) (Kd.R_mono b0.out (fun k_ hk=>(⟨hk,hk.2⟩:_ ∧ k_ ≠ b9))) (fun _ hk=>hk.2) (.int .i64 h9)) (fun _ hk=>hk.2) (.int .i64 i3)) (fun _ hk=>⟨hk.1.1,hk.1.2⟩)⟩
      have x9:Aside0 (Kd.R Kd.bool 4 ((q9.setCell ⟨b9,0,none⟩ (.int .i64 h9)).setCell ⟨b9,1,none⟩ (.int .i64 i3)) w.heap.size (fun _=>True) (.slice m2 b7.length m3) b7):=⟨by exact Kd.R_mono (Kd.R_far (p:=⟨b9,1,none⟩) (Kd.R_far (p:=⟨b9,0,none⟩) (Kd.R_types b1.out d9.out (by decide)) (fun _ hk=>hk.2) (.int .i64 h9)) (fun _ hk=>hk.2) (.int .i64 i3)) (fun _ hk=>trivial)⟩
      have y9:Aside0 (((q9.setCell ⟨b9,0,none⟩ (.int .i64 h9)).setCell ⟨b9,1,none⟩ (.int .i64 i3)).heap[e7]? = some (.cells #[.slice j8 e6.length j9,.slice l7 c1.length l5] 109 (0,0))):=⟨by refine blk_far ?_ h6.out _;refine blk_far ?_ h6.out _;exact b2.out⟩
      have z0:Aside0 (((q9.setCell ⟨b9,0,none⟩ (.int .i64 h9)).setCell ⟨b9,1,none⟩ (.int .i64 i3)).heap[i5]? = some (.cells #[.slice J7 d2.length J8] 35 (0,0))):=⟨by refine blk_far ?_ h7.out _;refine blk_far ?_ h7.out _;exact b4.out⟩
      have z1:Aside0 (((q9.setCell ⟨b9,0,none⟩ (.int .i64 h9)).setCell ⟨b9,1,none⟩ (.int .i64 i3)).heap[i2]? = some (.cells #[.slice m2 b7.length m3] 115 (0,0))):=⟨by refine blk_far ?_ h8.out _;refine blk_far ?_ h8.out _;exact b3.out⟩
      have z2:Aside0 (((q9.setCell ⟨b9,0,none⟩ (.int .i64 h9)).setCell ⟨b9,1,none⟩ (.int .i64 i3)).heap[d1]? = some (.cells #[.int .i64 e1,.int .i64 d6] 23 (0,0))):=⟨by refine blk_far ?_ e3.out _;refine blk_far ?_ e3.out _;exact b5.out⟩
      have z3:Aside0 (((q9.setCell ⟨b9,0,none⟩ (.int .i64 h9)).setCell ⟨b9,1,none⟩ (.int .i64 i3)).heap[b9]? = some (.cells #[.int .i64 h9,.int .i64 i3] 23 (0,0))):=⟨by refine blk_put (cs:=#[.int .i64 h9,.int .i64 0]) ?_ 1 _ rfl;refine blk_put (cs:=#[.int .i64 0,.int .i64 0]) ?_ 0 _ rfl;exact d9.out⟩
      have n7_:Aside0 (Below w.heap.size w ((q9.setCell ⟨b9,0,none⟩ (.int .i64 h9)).setCell ⟨b9,1,none⟩ (.int .i64 i3))):=⟨bl HB⟩
      generalize ((q9.setCell ⟨b9,0,none⟩ (.int .i64 h9)).setCell ⟨b9,1,none⟩ (.int .i64 i3)) = w55 at x8 x9 y9 z0 z1 z2 z3 n7_ ⊢
      have b0:=x8
      have b1:=x9
      have b2:=y9
      have b4:=z0
      have b3:=z1
      have b5:=z2
      have d9:=z3
      have HB:=n7_
      clear x8 x9 y9 z0 z1 z2 z3 n7_
      replace b0:=rD b0
      replace b1:=rD b1
      replace b2:=kD b2
      replace b4:=kD b4
      replace b3:=kD b3
      replace b5:=kD b5
      replace d9:=kD d9
      replace HB:=bD HB
      refine start_ (n:=4) (S:=fun w'=>w'.cell? ⟨b9,0,none⟩ = some (.int .i64 h9) ∧ w'.cell? ⟨b9,1,none⟩ = some (.int .i64 i3)) (ds:=[]) (ba 4 0) (by kernel_rfl) rfl rfl ⟨cz d9 0,cz d9 1⟩ (fun hHeld=>?_)
      generalize w55.drew = w56 at b0 b1 b2 b4 b3 b5 d9 HB hHeld ⊢
      refine pr 0 47 1 ?_
      refine pr 2 6 5 ?_
      refine tr 1 48 7 hHeld ?_
      refine one_ (i:=3) (N:=none) (ba 4 15) rfl rfl (by kernel_rfl) (by decide) (fun K hK=>?_)
      have hs57:w56.cell? ⟨d1,0,none⟩ = some (.int .i64 e1):=cz b5 0
      have hfs57:=blk_frozen b5.out 0
      have O7:=d3.out
      have O8:=d4.out
      have O9:=d5.out
      have P0:=d0.out
      have P1:=e8.out
      have P2:=e9.out
      have P3:=h0.out
      have P4:=e3.out
      have hs58:w56.cell? ⟨d1,1,none⟩ = some (.int .i64 d6):=cz b5 1
      have hfs58:=blk_frozen b5.out 1
      have P5:=d3.out
      have P6:=d4.out
      have P7:=d5.out
      have P8:=d0.out
      have P9:=e8.out
      have Q0:=e9.out
      have Q1:=h0.out
      have Q2:=e3.out
      refine skip_ (w1:=?_) (by rfl) rfl ?_ ?_
      rotate_left
      ·go_simp
       rfl
      refine hK.out _ _ ⟨((cell_far (p:=⟨d1,_,none⟩) d0.out _).trans (((cell_far (p:=⟨d1,_,none⟩) d0.out _).trans (hHeld.1)))),((cell_far (p:=⟨d1,_,none⟩) d0.out _).trans (((cell_far (p:=⟨d1,_,none⟩) d0.out _).trans (hHeld.2))))⟩ (fun hHeld=>?_)
      clear hK K
      refine done_ (by kernel_rfl) ?_
      try go_wp2
      go_roundg k2
      case measure=>have:=o1.out;have:=o2.out;omega
      case rel=>exact ⟨(i9),(wrap64 (i9 + 1)),(h9),(i3),rfl,rfl,H',⟨by have:=o1.out;have:=o2.out;omega⟩,⟨by exact Kd.R_mono (Kd.R_far (p:=⟨d1,1,none⟩) (Kd.R_far (p:=⟨d1,0,none⟩) (Kd.R_mono b0.out (fun k_ hk=>(⟨hk,hk.1⟩:_ ∧ k_ ≠ d1))) (fun _ hk=>hk.2) (.int .i64 h9)) (fun _ hk=>hk.2) (.int .i64 i3)) (fun _ hk=>hk.1.1)⟩,⟨by exact Kd.R_mono (Kd.R_far (p:=⟨d1,1,none⟩) (Kd.R_far (p:=⟨d1,0,none⟩) (Kd.R_types b1.out b5.out (by decide)) (fun _ hk=>hk.2) (.int .i64 h9)) (fun _ hk=>hk.2) (.int .i64 i3)) (fun _ hk=>trivial)⟩,⟨by refine blk_far ?_ d3.out _;refine blk_far ?_ d3.out _;exact b2.out⟩,⟨by refine blk_far ?_ d4.out _;refine blk_far ?_ d4.out _;exact b4.out⟩,⟨by refine blk_far ?_ d5.out _;refine blk_far ?_ d5.out _;exact b3.out⟩,⟨by refine blk_put (cs:=#[.int .i64 h9,.int .i64 d6]) ?_ 1 _ rfl;refine blk_put (cs:=#[.int .i64 e1,.int .i64 d6]) ?_ 0 _ rfl;exact b5.out⟩,⟨bl HB⟩⟩
     rw [if_neg z9] at H
     have J6:=decide_eq_false z9
     clear z9
     replace H:=Option.bind_eq_some_iff.mp H
     obtain ⟨p1,J9,H⟩:=H
     replace H:(if p1 < 0 then (shares_net_fair.l1 k2 i9 (e6.length:Int) (wrap64 (i9 + 1)) e6 c1 d2 b7 h9 i3) else (shares_net_fair.l1 k2 l9 (e6.length:Int) (wrap64 (i9 + 1)) e6 c1 d2 b7 e1 d6)) = some r:=H
     have A59:=A_ J9
     clear J9
     by_cases A0:p1 < 0
     case neg =>
      rw [if_neg A0] at H
      have K0:=decide_eq_false A0
      clear A0
      have H':=A_ H
      clear H
      have hnb83:=h3.out
      have hnc83:=e2.out
      have hnb84:=h5.out
      have hnc84:=e5.out
      have hnb85:=d4.out
      have hnc85:=e9.out
      have Q3:wr.cell? ⟨i5,0,none⟩ = some (e4):=cz b4 0
      have Q4:=blk_frozen b4.out 0
      have hnb87:=h4.out
      have hnc87:=e0.out
      have hnb88:=d5.out
      have hnc88:=h0.out
      have Q5:wr.cell? ⟨i2,0,none⟩ = some (.slice m2 b7.length m3):=cz b3 0
      have Q6:=blk_frozen b3.out 0
      have hnb90:=d3.out
      have hnc90:=e8.out
      have Q7:wr.cell? ⟨e7,0,none⟩ = some (.slice j8 e6.length j9):=cz b2 0
      have Q8:wr.cell? ⟨e7,1,none⟩ = some (.slice l7 c1.length l5):=cz b2 1
      have Q9:=blk_frozen b2.out 0
      have R0:=blk_frozen b2.out 1
      obtain ⟨Ao92,co92,eo92⟩:=Kd.R_slice b0.out
      subst eo92
      go_wp2_with (first | (go_at_call 103;(with_reducible refine (shares_net_fair_1.calls k2 i9 _ _ e6 _ _ c1 _ _ b7 _ _ d2 h9 i3 true _ e7 i2 i5 b2.out b3.out b4.out e0.out e2.out e5.out ?side1 ?side2 ?side3 ?side4 ?side5 ?side6 ?side7 ?side8 N3.out).mono ?_);(case side1=>exact cB n3 HB);(case side2=>exact n4.out);(case side3=>exact cB m7 HB);(case side4=>exact n5.out);(case side5=>repeat (first | exact (Kd.R_reads' b1.out).2.2 | (with_reducible refine Kd.C_alloc ?_ _) | (with_reducible refine Kd.C_drewN ?_ _) | (with_reducible refine Kd.C_drew ?_)));(case side6=>exact (Kd.R_reads' b1.out).2.1);(case side7=>repeat (first | exact (Kd.R_reads' b0.out).2.2 | (with_reducible refine Kd.C_alloc ?_ _) | (with_reducible refine Kd.C_drewN ?_ _) | (with_reducible refine Kd.C_drew ?_)));(case side8=>exact (Kd.R_reads' b0.out).2.1);rintro e w93 ⟨rfl,hb⟩;replace b0:=rB b0 hb;replace b1:=rB b1 hb;replace b2:=kB b2 hb;replace b4:=kB b4 hb;replace b3:=kB b3 hb;replace b5:=kB b5 hb;replace HB:=bB HB hb;(try clear hb)) | ((with_reducible refine gate_dst (N:=9) rfl ?_);refine bx 9 #[.int .i64 0,.int .i64 0] 23 ?_;intro b9 hg R1 hbox hb;have d9:=A_ hbox;have n2:=gw hg HB;have q8:=n2;have h6:=nl hg b2;have i6:=ng hg b2;have h7:=nl hg b4;have i7:=ng hg b4;have h8:=nl hg b3;have i8:=ng hg b3;have e3:=nl hg b5;have d0:=ng hg b5;replace b0:=A_ (Kd.R_below (Kd.R_elderB b0.out b9 (Nat.le_of_eq hg.symm)) hb);replace b1:=rB b1 hb;replace b2:=kB b2 hb;replace b4:=kB b4 hb;replace b3:=kB b3 hb;replace b5:=kB b5 hb;replace HB:=bB HB hb;clear hb hbox hg;have hnb95:=i6.out;have hnc95:=h6.out;have hnb96:=i7.out;have hnc96:=h7.out;have hnb97:=i8.out;have hnc97:=h8.out;have hnb98:=d0.out;have hnc98:=e3.out;have R2:R1.cell? ⟨b9,0,none⟩ = some (.int .i64 0):=cz d9 0;have R3:R1.cell? ⟨b9,1,none⟩ = some (.int .i64 0):=cz d9 1;have R4:=blk_frozen d9.out 0;have R5:=blk_frozen d9.out 1;have K1:R1.cell? ⟨d1,0,none⟩ = some (.int .i64 e1):=cz b5 0;have K2:R1.cell? ⟨d1,1,none⟩ = some (.int .i64 d6):=cz b5 1;have K3:=blk_frozen b5.out 0;have K4:=blk_frozen b5.out 1) | (go_at_call 85;(with_reducible refine (shares_compare.calls k2 h9 i3 e1 d6 p1 _ A59.out).mono ?_);rintro e w101 ⟨rfl,hb⟩;replace b0:=A_ (Kd.R_below (by exact (Kd.R_mono (Kd.R_far (p:=⟨b9,1,none⟩) (Kd.R_far (p:=⟨b9,0,none⟩) (Kd.R_mono b0.out (fun k_ hk=>(⟨hk,hk.2⟩:_ ∧ k_ ≠ b9))) (fun _ hk=>hk.2) (.int .i64 h9)) (fun _ hk=>hk.2) (.int .i64 i3)) (fun _ h_=>h_.1))) hb);replace b1:=A_ (Kd.R_below (by exact (Kd.R_mono (Kd.R_far (p:=⟨b9,1,none⟩) (Kd.R_far (p:=⟨b9,0,none⟩) (Kd.R_types b1.out d9.out (by decide)) (fun _ hk=>hk.2) (.int .i64 h9)) (fun _ hk=>hk.2) (.int .i64 i3)) (fun _ h_=>h_.1))) hb);replace b2:=kB b2 hb;replace b4:=kB b4 hb;replace b3:=kB b3 hb;replace b5:=kB b5 hb;replace d9:=A_ (blk_below (g:=b9) (o:=.cells #[.int .i64 h9,.int .i64 i3] 23 (0,0)) (by refine blk_put (cs:=#[.int .i64 h9,.int .i64 0]) ?_ 1 _ rfl;refine blk_put (cs:=#[.int .i64 0,.int .i64 0]) ?_ 0 _ rfl;exact d9.out) hb);replace HB:=bB HB hb;(try clear hb)))
      go_roundg k2
      case measure=>have:=o1.out;have:=o2.out;omega
      case rel=>exact ⟨(l9),(wrap64 (i9 + 1)),(e1),(d6),rfl,rfl,H',⟨by have:=o1.out;have:=o2.out;omega⟩,⟨by exact Kd.R_mono b0.out (fun _ hk=>hk.1)⟩,⟨by exact b1.out⟩,⟨by exact b2.out⟩,⟨by exact b4.out⟩,⟨by exact b3.out⟩,⟨by exact b5.out⟩,⟨bl HB⟩⟩
     rw [if_pos A0] at H
     have K0:=decide_eq_true A0
     clear A0
     have H':=A_ H
     clear H
     have hnb61:=h3.out
     have hnc61:=e2.out
     have hnb62:=h5.out
     have hnc62:=e5.out
     have hnb63:=d4.out
     have hnc63:=e9.out
     have R6:wr.cell? ⟨i5,0,none⟩ = some (e4):=cz b4 0
     have R7:=blk_frozen b4.out 0
     have hnb65:=h4.out
     have hnc65:=e0.out
     have hnb66:=d5.out
     have hnc66:=h0.out
     have R8:wr.cell? ⟨i2,0,none⟩ = some (.slice m2 b7.length m3):=cz b3 0
     have R9:=blk_frozen b3.out 0
     have hnb68:=d3.out
     have hnc68:=e8.out
     have S0:wr.cell? ⟨e7,0,none⟩ = some (.slice j8 e6.length j9):=cz b2 0
     have S1:wr.cell? ⟨e7,1,none⟩ = some (.slice l7 c1.length l5):=cz b2 1
     have S2:=blk_frozen b2.out 0
     have S3:=blk_frozen b2.out 1
     obtain ⟨Ao70,co70,eo70⟩:=Kd.R_slice b0.out
     subst eo70
     try go_wp2_with (first | (go_at_call 103;(with_reducible refine (shares_net_fair_1.calls k2 i9 _ _ e6 _ _ c1 _ _ b7 _ _ d2 h9 i3 true _ e7 i2 i5 b2.out b3.out b4.out e0.out e2.out e5.out ?side1 ?side2 ?side3 ?side4 ?side5 ?side6 ?side7 ?side8 N3.out).mono ?_);(case side1=>exact cB n3 HB);(case side2=>exact n4.out);(case side3=>exact cB m7 HB);(case side4=>exact n5.out);(case side5=>repeat (first | exact (Kd.R_reads' b1.out).2.2 | (with_reducible refine Kd.C_alloc ?_ _) | (with_reducible refine Kd.C_drewN ?_ _) | (with_reducible refine Kd.C_drew ?_)));(case side6=>exact (Kd.R_reads' b1.out).2.1);(case side7=>repeat (first | exact (Kd.R_reads' b0.out).2.2 | (with_reducible refine Kd.C_alloc ?_ _) | (with_reducible refine Kd.C_drewN ?_ _) | (with_reducible refine Kd.C_drew ?_)));(case side8=>exact (Kd.R_reads' b0.out).2.1);rintro e w71 ⟨rfl,hb⟩;replace b0:=rB b0 hb;replace b1:=rB b1 hb;replace b2:=kB b2 hb;replace b4:=kB b4 hb;replace b3:=kB b3 hb;replace b5:=kB b5 hb;replace HB:=bB HB hb;(try clear hb)) | ((with_reducible refine gate_dst (N:=9) rfl ?_);refine bx 9 #[.int .i64 0,.int .i64 0] 23 ?_;intro b9 hg S4 hbox hb;have d9:=A_ hbox;have n2:=gw hg HB;have q8:=n2;have h6:=nl hg b2;have i6:=ng hg b2;have h7:=nl hg b4;have i7:=ng hg b4;have h8:=nl hg b3;have i8:=ng hg b3;have e3:=nl hg b5;have d0:=ng hg b5;replace b0:=A_ (Kd.R_below (Kd.R_elderB b0.out b9 (Nat.le_of_eq hg.symm)) hb);replace b1:=rB b1 hb;replace b2:=kB b2 hb;replace b4:=kB b4 hb;replace b3:=kB b3 hb;replace b5:=kB b5 hb;replace HB:=bB HB hb;clear hb hbox hg;have hnb73:=i6.out;have hnc73:=h6.out;have hnb74:=i7.out;have hnc74:=h7.out;have hnb75:=i8.out;have hnc75:=h8.out;have hnb76:=d0.out;have hnc76:=e3.out;have S5:S4.cell? ⟨b9,0,none⟩ = some (.int .i64 0):=cz d9 0;have S6:S4.cell? ⟨b9,1,none⟩ = some (.int .i64 0):=cz d9 1;have S7:=blk_frozen d9.out 0;have S8:=blk_frozen d9.out 1;have S9:S4.cell? ⟨d1,0,none⟩ = some (.int .i64 e1):=cz b5 0;have T0:S4.cell? ⟨d1,1,none⟩ = some (.int .i64 d6):=cz b5 1;have U0:=blk_frozen b5.out 0;have U1:=blk_frozen b5.out 1) | (go_at_call 85;(with_reducible refine (shares_compare.calls k2 h9 i3 e1 d6 p1 _ A59.out).mono ?_);rintro e w79 ⟨rfl,hb⟩;replace b0:=A_ (Kd.R_below (by exact (Kd.R_mono (Kd.R_far (p:=⟨b9,1,none⟩) (Kd.R_far (p:=⟨b9,0,none⟩) (Kd.R_mono b0.out (fun k_ hk=>(⟨hk,hk.2⟩:_ ∧ k_ ≠ b9))) (fun _ hk=>hk.2) (.int .i64 h9)) (fun _ hk=>hk.2) (.int .i64 i3)) (fun _ h_=>h_.1))) hb);replace b1:=A_ (Kd.R_below (by exact (Kd.R_mono (Kd.R_far (p:=⟨b9,1,none⟩) (Kd.R_far (p:=⟨b9,0,none⟩) (Kd.R_types b1.out d9.out (by decide)) (fun _ hk=>hk.2) (.int .i64 h9)) (fun _ hk=>hk.2) (.int .i64 i3)) (fun _ h_=>h_.1))) hb);replace b2:=kB b2 hb;replace b4:=kB b4 hb;replace b3:=kB b3 hb;replace b5:=kB b5 hb;replace d9:=A_ (blk_below (g:=b9) (o:=.cells #[.int .i64 h9,.int .i64 i3] 23 (0,0)) (by refine blk_put (cs:=#[.int .i64 h9,.int .i64 0]) ?_ 1 _ rfl;refine blk_put (cs:=#[.int .i64 0,.int .i64 0]) ?_ 0 _ rfl;exact d9.out) hb);replace HB:=bB HB hb;(try clear hb)))
     replace b0:=rD b0
     replace b1:=rD b1
     replace b2:=kD b2
     replace b4:=kD b4
     replace b3:=kD b3
     replace b5:=kD b5
     replace d9:=kD d9
     replace HB:=bD HB
     refine start_ (n:=4) (S:=fun w'=>w'.cell? ⟨b9,0,none⟩ = some (.int .i64 h9) ∧ w'.cell? ⟨b9,1,none⟩ = some (.int .i64 i3)) (ds:=[]) (ba 4 0) (by kernel_rfl) rfl rfl ⟨cz d9 0,cz d9 1⟩ (fun hHeld=>?_)
     generalize w79.drew = w80 at b0 b1 b2 b4 b3 b5 d9 HB hHeld ⊢
     refine pr 0 47 1 ?_
     refine pr 2 6 5 ?_
     refine tr 1 48 7 hHeld ?_
     refine one_ (i:=3) (N:=none) (ba 4 15) rfl rfl (by kernel_rfl) (by decide) (fun K hK=>?_)
     have hs81:w80.cell? ⟨d1,0,none⟩ = some (.int .i64 e1):=cz b5 0
     have hfs81:=blk_frozen b5.out 0
     have U2:=d3.out
     have U3:=d4.out
     have U4:=d5.out
     have U5:=d0.out
     have U6:=e8.out
     have U7:=e9.out
     have U8:=h0.out
     have U9:=e3.out
     have hs82:w80.cell? ⟨d1,1,none⟩ = some (.int .i64 d6):=cz b5 1
     have hfs82:=blk_frozen b5.out 1
     have V0:=d3.out
     have V1:=d4.out
     have V2:=d5.out
     have V3:=d0.out
     have V4:=e8.out
     have V5:=e9.out
     have V6:=h0.out
     have V7:=e3.out
     refine skip_ (w1:=?_) (by rfl) rfl ?_ ?_
     rotate_left
     ·go_simp
      rfl
     refine hK.out _ _ ⟨((cell_far (p:=⟨d1,_,none⟩) d0.out _).trans (((cell_far (p:=⟨d1,_,none⟩) d0.out _).trans (hHeld.1)))),((cell_far (p:=⟨d1,_,none⟩) d0.out _).trans (((cell_far (p:=⟨d1,_,none⟩) d0.out _).trans (hHeld.2))))⟩ (fun hHeld=>?_)
     clear hK K
     refine done_ (by kernel_rfl) ?_
     try go_wp2
     go_roundg k2
     case measure=>have:=o1.out;have:=o2.out;omega
     case rel=>exact ⟨(i9),(wrap64 (i9 + 1)),(h9),(i3),rfl,rfl,H',⟨by have:=o1.out;have:=o2.out;omega⟩,⟨by exact Kd.R_mono (Kd.R_far (p:=⟨d1,1,none⟩) (Kd.R_far (p:=⟨d1,0,none⟩) (Kd.R_mono b0.out (fun k_ hk=>(⟨hk,hk.1⟩:_ ∧ k_ ≠ d1))) (fun _ hk=>hk.2) (.int .i64 h9)) (fun _ hk=>hk.2) (.int .i64 i3)) (fun _ hk=>hk.1.1)⟩,⟨by exact Kd.R_mono (Kd.R_far (p:=⟨d1,1,none⟩) (Kd.R_far (p:=⟨d1,0,none⟩) (Kd.R_types b1.out b5.out (by decide)) (fun _ hk=>hk.2) (.int .i64 h9)) (fun _ hk=>hk.2) (.int .i64 i3)) (fun _ hk=>trivial)⟩,⟨by refine blk_far ?_ d3.out _;refine blk_far ?_ d3.out _;exact b2.out⟩,⟨by refine blk_far ?_ d4.out _;refine blk_far ?_ d4.out _;exact b4.out⟩,⟨by refine blk_far ?_ d5.out _;refine blk_far ?_ d5.out _;exact b3.out⟩,⟨by refine blk_put (cs:=#[.int .i64 h9,.int .i64 d6]) ?_ 1 _ rfl;refine blk_put (cs:=#[.int .i64 e1,.int .i64 d6]) ?_ 0 _ rfl;exact b5.out⟩,⟨bl HB⟩⟩
end Go.Proofs.Ytjohcjfmlhihbaa.G
set_option linter.unusedSectionVars false
namespace Go.Proofs.Ytjohcjfmlhihbaa.P
open Go Go.RowKit Go.Proofs.Ytjohcjfmlhihbaa.G
open Go.Proofs.YtjohcjfmlhihbaaW.PrintWords Go.Proofs.YtjohcjfmlhihbaaW.PrintMore
def better (p:List Int) (u:List S45) (fix:Nat → Bool) (r:Nat → Rat) (q:Nat) (b:Option (Nat × Rat)):Option (Nat × Rat) :=
 if wN (netOf p u) u fix q u.length = 0 then b else
  match b with
  | none=>some (q,muq p u fix r q)
  | some am=>if muq p u fix r q < am.2 then some (q,muq p u fix r q) else some am
def srch (p:List Int) (u:List S45) (fix:Nat → Bool) (r:Nat → Rat):Nat → Nat → Option (Nat × Rat) → Option (Nat × Rat)
 | 0,_,b=>b
 | d + 1,i,b=>srch p u fix r d (i + 1) (better p u fix r i b)
def Best (p:List Int) (u:List S45) (fix:Nat → Bool) (r:Nat → Rat) (i:Nat):Option (Nat × Rat) → Prop
 | none=>∀ q,q < i → wN (netOf p u) u fix q u.length = 0
 | some am=>am.1 < p.length ∧ wN (netOf p u) u fix am.1 u.length ≠ 0 ∧ am.2 = muq p u fix r am.1 ∧ ∀ q,q < i → wN (netOf p u) u fix q u.length ≠ 0 → muq p u fix r am.1 ≤ muq p u fix r q
theorem Best.next {p:List Int} {u:List S45} {fix:Nat → Bool} {r:Nat → Rat} {i:Nat} {b:Option (Nat × Rat)} (hi:i < p.length) (h:Best p u fix r i b):Best p u fix r (i + 1) (better p u fix r i b):=by
 unfold better
 by_cases hw:wN (netOf p u) u fix i u.length = 0
 ·rw [if_pos hw]
  cases b with
  | none =>
   intro q hq
   by_cases e:q = i
   ·rw [e];exact hw
   ·exact h q (by omega)
  | some am =>
   refine ⟨h.1,h.2.1,h.2.2.1,fun q hq hwq=>?_⟩
   by_cases e:q = i
   ·subst e;exact absurd hw hwq
   ·exact h.2.2.2 q (by omega) hwq
 ·rw [if_neg hw]
  cases b with
  | none =>
   refine ⟨hi,hw,rfl,fun q hq hwq=>?_⟩
   by_cases e:q = i
   ·subst e;exact Rat.le_refl
   ·exact absurd (h q (by omega)) hwq
  | some am =>
   show Best p u fix r (i + 1) (if muq p u fix r i < am.2 then some (i,muq p u fix r i) else some am)
   obtain ⟨h1,h2,h3,h4⟩:=h
   by_cases hlt:muq p u fix r i < am.2
   ·rw [if_pos hlt]
    refine ⟨hi,hw,rfl,fun q hq hwq=>?_⟩
    by_cases e:q = i
    ·subst e;exact Rat.le_refl
    ·have:=h4 q (by omega) hwq
     show muq p u fix r i ≤ _
     grind
   ·rw [if_neg hlt]
    refine ⟨h1,h2,h3,fun q hq hwq=>?_⟩
    by_cases e:q = i
    ·subst e;rw [h3] at hlt;exact Rat.not_lt.1 hlt
    ·exact h4 q (by omega) hwq
theorem Best.srch {p:List Int} {u:List S45} {fix:Nat → Bool} {r:Nat → Rat}:∀ {d i:Nat} {b:Option (Nat × Rat)},i + d = p.length → Best p u fix r i b → Best p u fix r p.length (srch p u fix r d i b)
 | 0,i,b,hi,h=>by
  obtain rfl:i = p.length:=by omega
  exact h
 | d + 1,i,b,hi,h=>Best.srch (d:=d) (by omega) (h.next (by omega))
def bP:Option (Nat × Rat) → Int × Int × Int
 | none=>(-1,0,0)
 | some am=>((am.1:Int),am.2.num,(am.2.den:Int))
def raiseV (p:List Int) (u:List S45) (fix:Nat → Bool) (r:Nat → Rat) (q:Nat):Int × Int × Bool:=if wN (netOf p u) u fix q u.length = 0 then (0,0,false) else ((muq p u fix r q).num,((muq p u fix r q).den:Int),true)
def fixN (p:List Int) (u:List S45) (fix:Nat → Bool) (a:Nat) (v:Nat):Bool:=fix v || (netOf p u).has v a
def rN (p:List Int) (u:List S45) (fix:Nat → Bool) (r:Nat → Rat) (a:Nat) (m:Rat) (v:Nat):Rat:=if fix v = false ∧ (netOf p u).has v a = true then m * (netOf p u).w v else r v
def fixI (p:List Int) (u:List S45) (fix:Nat → Bool) (a i:Nat) (v:Nat):Bool:=if v < i then fixN p u fix a v else fix v
def rI (p:List Int) (u:List S45) (fix:Nat → Bool) (r:Nat → Rat) (a:Nat) (m:Rat) (i:Nat) (v:Nat):Rat:=if v < i then rN p u fix r a m v else r v
section
variable {p:List Int} {u:List S45} {fix:Nat → Bool} {r:Nat → Rat} {z:S23} {a:Nat} {m:Rat}
theorem next_same {i:Nat} (h:¬ (fix i = false ∧ (netOf p u).has i a = true)):rts u.length z (fixI p u fix a (i + 1)) (rI p u fix r a m (i + 1)) = rts u.length z (fixI p u fix a i) (rI p u fix r a m i) ∧ tab u.length (fixI p u fix a (i + 1)) = tab u.length (fixI p u fix a i):=by
 have h1:∀ v,fixI p u fix a (i + 1) v = fixI p u fix a i v:=by
  intro v
  unfold fixI
  by_cases e:v = i
  ·subst e
   rw [if_pos (by omega),if_neg (by omega)]
   unfold fixN
   cases hf:fix v
   ·cases hh:(netOf p u).has v a
    ·rfl
    ·exact absurd ⟨hf,hh⟩ h
   ·rfl
  ·by_cases e2:v < i
   ·rw [if_pos (by omega),if_pos e2]
   ·rw [if_neg (by omega),if_neg e2]
 have h2:∀ v,rI p u fix r a m (i + 1) v = rI p u fix r a m i v:=by
  intro v
  unfold rI
  by_cases e:v = i
  ·subst e
   rw [if_pos (by omega),if_neg (by omega)]
   unfold rN
   rw [if_neg h]
  ·by_cases e2:v < i
   ·rw [if_pos (by omega),if_pos e2]
   ·rw [if_neg (by omega),if_neg e2]
 exact ⟨tab_congr fun v _=>by rw [h1,h2],tab_congr fun v _=>h1 v⟩
theorem next_set {i:Nat} (h:fix i = false ∧ (netOf p u).has i a = true):rts u.length z (fixI p u fix a (i + 1)) (rI p u fix r a m (i + 1)) = (rts u.length z (fixI p u fix a i) (rI p u fix r a m i)).set i (encQ (m * (netOf p u).w i)) ∧ tab u.length (fixI p u fix a (i + 1)) = (tab u.length (fixI p u fix a i)).set i true:=by
 have h1:∀ v,v ≠ i → fixI p u fix a (i + 1) v = fixI p u fix a i v ∧ rI p u fix r a m (i + 1) v = rI p u fix r a m i v:=by
  intro v e
  unfold fixI rI
  by_cases e2:v < i
  ·rw [if_pos (by omega),if_pos e2,if_pos (by omega),if_pos e2];exact ⟨rfl,rfl⟩
  ·rw [if_neg (by omega),if_neg e2,if_neg (by omega),if_neg e2];exact ⟨rfl,rfl⟩
 have h2:fixI p u fix a (i + 1) i = true:=by
  unfold fixI fixN
  rw [if_pos (by omega),h.2,Bool.or_true]
 have h3:rI p u fix r a m (i + 1) i = m * (netOf p u).w i:=by
  unfold rI rN
  rw [if_pos (by omega),if_pos h]
 unfold rts
 rw [tab_set,tab_set]
 refine ⟨tab_congr fun v _=>?_,tab_congr fun v _=>?_⟩
 ·by_cases e:v = i
  ·subst e;rw [if_pos h2,if_pos rfl,h3]
  ·rw [if_neg e,(h1 v e).1,(h1 v e).2]
 ·by_cases e:v = i
  ·subst e;rw [if_pos rfl,h2]
  ·rw [if_neg e,(h1 v e).1]
theorem first_lists:rts u.length z (fixI p u fix a 0) (rI p u fix r a m 0) = rts u.length z fix r ∧ tab u.length (fixI p u fix a 0) = tab u.length fix:=by
 refine ⟨tab_congr fun v _=>?_,tab_congr fun v _=>?_⟩
 ·unfold fixI rI;rw [if_neg (show ¬ v < 0 by omega),if_neg (show ¬ v < 0 by omega)]
 ·unfold fixI;rw [if_neg (show ¬ v < 0 by omega)]
theorem last_lists:rts u.length z (fixI p u fix a u.length) (rI p u fix r a m u.length) = rts u.length z (fixN p u fix a) (rN p u fix r a m) ∧ tab u.length (fixI p u fix a u.length) = tab u.length (fixN p u fix a):=by
 refine ⟨tab_congr fun v hv=>?_,tab_congr fun v hv=>?_⟩
 ·unfold fixI rI;rw [if_pos hv,if_pos hv]
 ·unfold fixI;rw [if_pos hv]
end
theorem times_den (q:Rat) (n:Int):(q * (n:Rat)).den ∣ q.den:=by
 rw [← mk_times]
 exact den_dvd _ (Nat.ne_of_gt (den_pos q))
theorem wN_ge {N:Net} {u:List S45} {fix:Nat → Bool} {q v:Nat} (h:N.has v q = true) (hf:fix v = false):∀ i,v < i → (rd_T45 u (v:Int)).f0.toNat ≤ wN N u fix q i
 | 0,hi=>by omega
 | i + 1,hi=>by
  rw [wN]
  by_cases e:v = i
  ·subst e
   rw [if_pos (by rw [h,hf];rfl)]
   omega
  ·have:=wN_ge (u:=u) h hf i (by omega)
   split <;> omega
section
variable {p:List Int} {u:List S45} (hN:IsN p u) {fix:Nat → Bool} {r:Nat → Rat} {lam:Rat} {D:Nat} (hF:FS p u fix r lam D)
include hN hF
theorem FS.next {a:Nat} {m:Rat} (hB:Best p u fix r p.length (some (a,m))):FS p u (fixN p u fix a) (rN p u fix r a m) m (D * wN (netOf p u) u fix a u.length) ∧ cnt u.length (fixN p u fix a) < cnt u.length fix:=by
 obtain ⟨h1,h2,h3,h4⟩:=hB
 have h3':m = muq p u fix r a:=h3
 subst h3'
 have hW:0 < (netOf p u).W fix a:=(W_pos_iff hN hF).2 h2
 have hmm:=mu_mul hN hF h2
 have hmin:∀ q,q < (netOf p u).n → 0 < (netOf p u).W fix q → muq p u fix r a * (netOf p u).W fix q ≤ (netOf p u).left fix r q:=by
  intro q hq hWq
  have hw:=(W_pos_iff hN hF).1 hWq
  rw [← mu_mul hN hF hw]
  exact Rat.mul_le_mul_of_nonneg_right (h4 q hq hw) (Rat.le_of_lt hWq)
 obtain ⟨hs,hl⟩:=Net.Fill.step (wpos hN) hF.fill h1 hW hmm hmin
 have hlt:cnt u.length (fixN p u fix a) < cnt u.length fix:=by
  refine cnt_lt _ _ _ (fun v _ hv=>by unfold fixN;rw [hv];rfl) ?_
  apply Classical.byContradiction
  intro hno
  have:(netOf p u).W fix a = 0:=S_zero fun v hv=>by
   cases hf:fix v
   ·cases hh:(netOf p u).has v a
    ·rfl
    ·exact absurd ⟨v,hv,hf,by unfold fixN;rw [hf,hh];rfl⟩ hno
   ·simp
  rw [this] at hW
  exact absurd hW (by decide)
 have m0:0 ≤ muq p u fix r a:=Rat.le_trans hF.lam0 hl
 have hmu:=mu_num hN hF h1 h2
 refine ⟨⟨hs,m0,fun v hv hf=>?_,Nat.mul_pos hF.d0 (Nat.pos_of_ne_zero h2),dens_step hF.dd (wN_cnt hN fix a u.length (Nat.le_refl _)) hlt⟩,hlt⟩
 unfold rN
 by_cases hc:fix v = false ∧ (netOf p u).has v a = true
 ·rw [if_pos hc]
  obtain ⟨e1,e2,e3,e4⟩:=w_nat hN hv
  refine ⟨Rat.mul_nonneg m0 (Rat.le_of_lt (wpos hN v hv)),?_,Nat.dvd_trans (times_den _ _) hmu.2.2.1⟩
  have hge:=wN_ge (N:=netOf p u) (u:=u) hc.2 hc.1 u.length hv
  have hle:(netOf p u).w v ≤ (netOf p u).W fix a:=by
   rw [e1,← wN_W hN]
   exact Rat.natCast_le_natCast.2 hge
  have h5:=Rat.mul_le_mul_of_nonneg_left hle m0
  rw [hmm] at h5
  have h6:=(lf_bd hN hF h1 u.length (Nat.le_refl _)).1
  rw [lf_left hN] at h6
  exact Rat.le_trans h5 h6
 ·rw [if_neg hc]
  have hfv:fix v = true:=by
   cases hfv:fix v
   ·unfold fixN at hf
    rw [hfv,Bool.false_or] at hf
    exact absurd ⟨hfv,hf⟩ hc
   ·rfl
  obtain ⟨b1,b2,b3⟩:=hF.rb v hv hfv
  exact ⟨b1,b2,Nat.dvd_trans b3 (Nat.dvd_mul_right _ _)⟩
theorem some_best (hc:0 < cnt u.length fix):∃ am,srch p u fix r p.length 0 none = some am ∧ Best p u fix r p.length (some am):=by
 have hB:=Best.srch (p:=p) (u:=u) (fix:=fix) (r:=r) (d:=p.length) (i:=0) (b:=none) (by omega) (fun q hq=>by omega)
 cases hs:srch p u fix r p.length 0 none with
 | some am=>rw [hs] at hB;exact ⟨am,rfl,hB⟩
 | none =>
  rw [hs] at hB
  obtain ⟨v,hv,hfv⟩:=List.countP_pos_iff.1 hc
  rw [List.mem_range] at hv
  have hfv':fix v = false:=by simpa using hfv
  have hlen:=hN.len v hv
  have hmem:u[v].f1[0]'(by omega) ∈ u[v].f1:=List.getElem_mem _
  have hq:=hN.pipe v hv _ hmem
  generalize u[v].f1[0]'(by omega) = q at hmem hq
  have hh:(netOf p u).has v q.toNat = true:=by
   rw [has_eq hN hv,Int.toNat_of_nonneg hq.1]
   exact decide_eq_true hmem
  have:=(W_pos_iff hN hF).1 (W_pos (wpos hN) hv hh hfv')
  exact absurd (hB q.toNat (by omega)) this
theorem raise_l0 {z:S23} {q:Nat} (hq:q < p.length):∀ d i,i + d = u.length → Ev (fun k=>shares_net_fair_1.l0 k (q:Int) (wN (netOf p u) u fix q i:Int) (u.length:Int) (i:Int) p u (tab u.length fix) (rts u.length z fix r) (lf (netOf p u) fix r q i).num ((lf (netOf p u) fix r q i).den:Int)) (raiseV p u fix r q):=by
 intro d
 have h6:=hN.u6
 induction d with
 | zero =>
  intro i hi
  obtain rfl:i = u.length:=by omega
  unfold raiseV
  by_cases hw:wN (netOf p u) u fix q u.length = 0
  ·rw [if_pos hw]
   refine Ev.step (f:=fun _=>some (0,0,false)) (fun k=>?_) (Ev.now _)
   rw [shares_net_fair_1.l0,if_neg (by omega),if_pos (by omega)]
  ·rw [if_neg hw]
   have hln:=lf_num hN hF hq (i:=u.length) (Nat.le_refl _)
   have hwl:=wN_cnt hN fix q u.length (Nat.le_refl _)
   have hcm:=cnt_m u.length fix
   have hm:(lf (netOf p u) fix r q u.length).den * wN (netOf p u) u fix q u.length ≤ 2949120 * 24:=Nat.mul_le_mul hln.2 (by omega)
   have ho:=ev_over (lf (netOf p u) fix r q u.length) (n:=wN (netOf p u) u fix q u.length) (by omega) (by omega) (by omega)
   refine Ev.step (fun k=>by rw [shares_net_fair_1.l0,if_neg (by omega),if_neg (by omega)]) (Ev.bind ho (Ev.now _))
 | succ d ih =>
  intro i hi
  have hil:i < u.length:=by omega
  have hn:=ih (i + 1) (by omega)
  rw [lf_succ,wN] at hn
  refine Ev.step (fun k=>by rw [shares_net_fair_1.l0,if_pos (by omega),tab_length,rts,tab_length,tab_b hil,tab_T hil,wrap_succ (by omega)]) (Ev.bind (ev_hasN hN hil q) ?_)
  by_cases hh:(netOf p u).has i q = true
  ·rw [hh] at hn ⊢
   refine Ev.congr (fun k=>if_pos rfl) (Ev.congr (fun k=>if_pos (by omega)) (Ev.congr (fun k=>if_pos (by omega)) ?_))
   by_cases hf:fix i = true
   ·rw [hf] at hn ⊢
    rw [if_pos (show (true && true) = true from rfl),if_neg (show ¬ (true && !true) = true by decide)] at hn
    refine Ev.congr (fun k=>if_pos rfl) (Ev.congr (fun k=>if_pos (by omega)) (Ev.bind (ev_minus (lf_fits hN hF hq hil hf)) hn))
   ·have hf':fix i = false:=by simpa using hf
    rw [hf'] at hn ⊢
    rw [if_neg (show ¬ (true && false) = true by decide),if_pos (show (true && !false) = true from rfl)] at hn
    refine Ev.congr (fun k=>if_neg (by decide)) (Ev.congr (fun k=>if_pos (by omega)) ?_)
    obtain ⟨_,e2,_,e4⟩:=w_nat hN hil
    have hwl:=wN_cnt hN fix q i (by omega)
    have hcm:=cnt_m i fix
    have ew:wrap64 ((wN (netOf p u) u fix q i:Int) + (rd_T45 u (i:Int)).f0) = ((wN (netOf p u) u fix q i + (rd_T45 u (i:Int)).f0.toNat:Nat):Int):=by
     rw [wrap_id (by omega) (by omega)]
     omega
    rw [ew]
    exact hn
  ·have hh':(netOf p u).has i q = false:=by simpa using hh
   rw [hh'] at hn ⊢
   rw [if_neg (show ¬ (false && !fix i) = true by simp),if_neg (show ¬ (false && fix i) = true by simp)] at hn
   exact Ev.congr (fun k=>if_neg (by decide)) hn
theorem ev_raise {z:S23} {q:Nat} (hq:q < p.length):Ev (fun k=>shares_net_fair_1.f k (q:Int) p u (tab u.length fix) (rts u.length z fix r)) (raiseV p u fix r q):=by
 unfold shares_net_fair_1.f shares_whole.f
 refine Ev.congr (fun k=>if_pos (by omega)) (Ev.congr (fun k=>if_pos (by omega)) ?_)
 simp only [Option.bind_some]
 have h:=raise_l0 hN hF (z:=z) hq u.length 0 (by omega)
 have e:lf (netOf p u) fix r q 0 = ((rd p (q:Int):Int):Rat):=by
  unfold lf;rw [S_nil]
  show ((rd p (q:Int):Int):Rat) - 0 = _
  grind
 rw [e,whole_num,whole_den] at h
 exact h
theorem fair_l1 {z:S23} {v:List S23}:∀ d i b,i + d = p.length → Best p u fix r i b → Ev (fun k=>shares_net_fair.l2 k (bP (srch p u fix r d i b)).1 (u.length:Int) 0 p u (rts u.length z fix r) (tab u.length fix) (bP (srch p u fix r d i b)).2.1 (bP (srch p u fix r d i b)).2.2) v →
  Ev (fun k=>shares_net_fair.l1 k (bP b).1 (p.length:Int) (i:Int) p u (rts u.length z fix r) (tab u.length fix) (bP b).2.1 (bP b).2.2) v:=by
 intro d
 have h5:=hN.p5
 induction d with
 | zero =>
  intro i b hi hB hv
  refine Ev.step (fun k=>?_) hv
  rw [shares_net_fair.l1,if_neg (by omega)];rfl
 | succ d ih =>
  intro i b hi hB hv
  have hil:i < p.length:=by omega
  have hn:=ih (i + 1) (better p u fix r i b) (by omega) (hB.next hil) hv
  refine Ev.step (fun k=>by rw [shares_net_fair.l1,if_pos (by omega),wrap_succ (by omega)]) (Ev.bind (ev_raise hN hF (z:=z) hil) ?_)
  unfold raiseV
  unfold better at hn
  by_cases hw:wN (netOf p u) u fix i u.length = 0
  ·rw [if_pos hw] at hn ⊢
   exact Ev.congr (fun k=>if_neg (by decide)) hn
  ·rw [if_neg hw] at hn ⊢
   refine Ev.congr (fun k=>if_pos rfl) ?_
   cases b with
   | none=>exact Ev.congr (fun k=>if_pos (by decide)) hn
   | some am =>
    obtain ⟨h1,h2,h3,_⟩:=hB
    have hc:=ev_compare (mu_fits hN hF hil hw h1 h2)
    rw [← h3] at hc
    refine Ev.congr (fun k=>if_neg (show ¬ ((am.1:Int) < 0) by omega)) (Ev.bind hc ?_)
    have hn':Ev (fun k=>shares_net_fair.l1 k (bP (if muq p u fix r i < am.2 then some (i,muq p u fix r i) else some am)).1 (p.length:Int) ((i + 1:Nat):Int) p u (rts u.length z fix r) (tab u.length fix) (bP (if muq p u fix r i < am.2 then some (i,muq p u fix r i) else some am)).2.1 (bP (if muq p u fix r i < am.2 then some (i,muq p u fix r i) else some am)).2.2) v:=hn
    by_cases hlt:muq p u fix r i < am.2
    ·rw [if_pos hlt] at hn'
     exact Ev.congr (fun k=>if_pos ((cmpR_lt _ _).2 hlt)) hn'
    ·rw [if_neg hlt] at hn'
     exact Ev.congr (fun k=>if_neg (fun h=>hlt ((cmpR_lt _ _).1 h))) hn'
theorem fair_l2 {z:S23} {v:List S23} {am:Nat × Rat} (hB:Best p u fix r p.length (some am)) (hv:Ev (fun k=>shares_net_fair.l0 k p u (rts u.length z (fixN p u fix am.1) (rN p u fix r am.1 am.2)) (tab u.length (fixN p u fix am.1))) v):∀ d i,i + d = u.length →
  Ev (fun k=>shares_net_fair.l2 k (am.1:Int) (u.length:Int) (i:Int) p u (rts u.length z (fixI p u fix am.1 i) (rI p u fix r am.1 am.2 i)) (tab u.length (fixI p u fix am.1 i)) am.2.num (am.2.den:Int)) v:=by
 intro d
 have h6:=hN.u6
 induction d with
 | zero =>
  intro i hi
  obtain rfl:i = u.length:=by omega
  rw [last_lists.1,(last_lists (r:=r) (z:=z) (m:=am.2)).2]
  refine Ev.step (fun k=>?_) hv
  rw [shares_net_fair.l2,if_neg (by omega)]
 | succ d ih =>
  intro i hi
  have hil:i < u.length:=by omega
  have hn:=ih (i + 1) (by omega)
  have hlr:(rts u.length z (fixI p u fix am.1 i) (rI p u fix r am.1 am.2 i)).length = u.length:=tab_length _ _
  have hfi:fixI p u fix am.1 i i = fix i:=by unfold fixI;rw [if_neg (by omega)]
  refine Ev.step (fun k=>by rw [shares_net_fair.l2,if_pos (by omega),if_pos (by omega),tab_length,if_pos (by omega),tab_b hil,hfi,hlr,wrap_succ (by omega)]) ?_
  by_cases hf:fix i = true
  ·rw [(next_same (fun h=>by rw [hf] at h;cases h.1)).1,(next_same (r:=r) (z:=z) (m:=am.2) (fun h=>by rw [hf] at h;cases h.1)).2] at hn
   exact Ev.congr (fun k=>if_pos hf) hn
  ·have hf':fix i = false:=by simpa using hf
   refine Ev.congr (fun k=>if_neg hf) (Ev.bind (ev_hasN hN hil am.1) ?_)
   by_cases hh:(netOf p u).has i am.1 = true
   ·rw [(next_set ⟨hf',hh⟩).1,(next_set (r:=r) (z:=z) (m:=am.2) ⟨hf',hh⟩).2] at hn
    obtain ⟨h1,h2,h3,_⟩:=hB
    have hmu:=mu_num hN hF h1 h2
    rw [← h3] at hmu
    obtain ⟨_,e2,_,e4⟩:=w_nat hN hil
    have ht:=ev_times am.2 (n:=(rd_T45 u (i:Int)).f0) (by
     rw [Int.natAbs_mul]
     exact Nat.lt_of_le_of_lt (Nat.mul_le_mul hmu.1 (show (rd_T45 u (i:Int)).f0.natAbs ≤ 4 by omega)) (by decide)) (by omega)
    exact Ev.congr (fun k=>if_pos hh) (Ev.congr (fun k=>if_pos (by omega)) (Ev.bind ht (Ev.congr (fun k=>if_pos (by omega)) hn)))
   ·rw [(next_same (fun h=>hh h.2)).1,(next_same (r:=r) (z:=z) (m:=am.2) (fun h=>hh h.2)).2] at hn
    exact Ev.congr (fun k=>if_neg hh) hn
end
theorem index_b {m:Nat} (hm:m ≤ 1000000) (fix:Nat → Bool):∀ d i,i + d = m → ∃ r:Int,(0 ≤ r ↔ ∃ v,i ≤ v ∧ v < m ∧ fix v = false) ∧ Ev (fun k=>slices_Index_bool_bool.l0 k (tab m fix) false (m:Int) (i:Int)) r:=by
 intro d
 induction d with
 | zero =>
  intro i hi
  refine ⟨-1,⟨fun h=>by omega,fun ⟨v,h1,h2,_⟩=>by omega⟩,Ev.step (f:=fun _=>some (-1)) (fun k=>?_) (Ev.now _)⟩
  rw [slices_Index_bool_bool.l0,if_neg (by omega)]
 | succ d ih =>
  intro i hi
  have hil:i < m:=by omega
  cases hf:fix i with
  | false =>
   refine ⟨(i:Int),⟨fun _=>⟨i,Nat.le_refl _,hil,hf⟩,fun _=>by omega⟩,Ev.step (f:=fun _=>some (i:Int)) (fun k=>?_) (Ev.now _)⟩
   rw [slices_Index_bool_bool.l0,if_pos (by omega),if_pos (by omega),tab_length,if_pos (by omega),tab_b hil,hf,if_pos (by decide)]
  | true =>
   obtain ⟨r,h1,h2⟩:=ih (i + 1) (by omega)
   refine ⟨r,h1.trans ⟨fun ⟨v,a,b,c⟩=>⟨v,by omega,b,c⟩,fun ⟨v,a,b,c⟩=>⟨v,?_,b,c⟩⟩,Ev.step (fun k=>?_) h2⟩
   ·by_cases e:v = i
    ·subst e;rw [hf] at c;cases c
    ·omega
   ·rw [slices_Index_bool_bool.l0,if_pos (by omega),if_pos (by omega),tab_length,if_pos (by omega),tab_b hil,hf,if_neg (by decide),wrap_succ (by omega)]
theorem ev_contains_b {m:Nat} (hm:m ≤ 1000000) (fix:Nat → Bool):Ev (fun k=>slices_Contains_bool_bool.f k (tab m fix) false) (decide (0 < cnt m fix)):=by
 obtain ⟨r,h1,h2⟩:=index_b hm fix m 0 (by omega)
 unfold slices_Contains_bool_bool.f slices_Index_bool_bool.f
 rw [tab_length]
 refine Ev.bind h2 ?_
 have e:decide (r ≥ 0) = decide (0 < cnt m fix):=by
  rw [decide_eq_decide]
  refine h1.trans ⟨fun ⟨v,_,hv,hf⟩=>cnt_pos hv hf,fun h=>?_⟩
  obtain ⟨v,hv,hf⟩:=List.countP_pos_iff.1 h
  exact ⟨v,Nat.zero_le _,List.mem_range.1 hv,by simpa using hf⟩
 rw [e]
 exact Ev.now _
structure FairR (p:List Int) (u:List S45) (x:List Rat):Prop where
 len:x.length = u.length
 fair:(netOf p u).Fair (rt x)
 bd:∃ D,0 < D ∧ D ≤ 2949120 ∧ ∀ v,v < u.length → 0 ≤ rt x v ∧ rt x v ≤ ((200:Nat):Rat) ∧ (rt x v).den ∣ D
theorem load_congr {N:Net} {r s:Nat → Rat} (h:∀ v,v < N.m → r v = s v) (q:Nat):N.load r q = N.load s q:=S_congr fun v hv=>by rw [h v hv]
theorem Fair_congr {N:Net} {r s:Nat → Rat} (h:∀ v,v < N.m → r v = s v) (hr:N.Fair r):N.Fair s:=by
 refine ⟨fun q hq=>by rw [← load_congr h];exact hr.1 q hq,fun v hv=>?_⟩
 obtain ⟨q,h1,h2,h3,h4⟩:=hr.2 v hv
 refine ⟨q,h1,h2,by rw [← load_congr h];exact h3,fun w hw hh=>?_⟩
 rw [← h v hv,← h w hw]
 exact h4 w hw hh
section
variable {p:List Int} {u:List S45} (hN:IsN p u)
include hN
theorem FS.done {fix:Nat → Bool} {r:Nat → Rat} {lam:Rat} {D:Nat} (hF:FS p u fix r lam D) (hc:¬ 0 < cnt u.length fix) (z:S23):FairR p u (tab u.length r) ∧ rts u.length z fix r = encL (tab u.length r):=by
 have hall:=cnt_zero (m:=u.length) (fix:=fix) (by omega)
 refine ⟨⟨tab_length _ _,?_,D,hF.d0,hF.D_le hN,fun v hv=>?_⟩,?_⟩
 ·exact Fair_congr (fun v hv=>(rt_tab hv).symm) (hF.fill.fair hall)
 ·rw [rt_tab hv];exact hF.rb v hv (hall v hv)
 ·rw [encL_tab];exact tab_congr fun v hv=>by rw [if_pos (hall v hv)]
theorem fair_l0 (z:S23):∀ c (fix:Nat → Bool) (r:Nat → Rat) (lam:Rat) (D:Nat),FS p u fix r lam D → cnt u.length fix ≤ c → ∃ x,FairR p u x ∧ Ev (fun k=>shares_net_fair.l0 k p u (rts u.length z fix r) (tab u.length fix)) (encL x):=by
 intro c
 have h6:=hN.u6
 induction c with
 | zero =>
  intro fix r lam D hF hc
  obtain ⟨h1,h2⟩:=hF.done hN (by omega) z
  refine ⟨_,h1,?_⟩
  rw [h2]
  refine Ev.step (fun k=>by rw [shares_net_fair.l0]) (Ev.bind (ev_contains_b (by omega) fix) ?_)
  rw [decide_eq_false (by omega)]
  exact Ev.congr (fun k=>if_neg (by decide)) (Ev.now _)
 | succ c ih =>
  intro fix r lam D hF hc
  by_cases h0:0 < cnt u.length fix
  ·obtain ⟨am,hs,hB⟩:=some_best hN hF h0
   obtain ⟨hF2,hlt⟩:=hF.next hN hB
   obtain ⟨x,hx,hv⟩:=ih _ _ _ _ hF2 (by omega)
   refine ⟨x,hx,Ev.step (fun k=>by rw [shares_net_fair.l0]) (Ev.bind (ev_contains_b (by omega) fix) ?_)⟩
   rw [decide_eq_true h0]
   refine Ev.congr (fun k=>if_pos rfl) (fair_l1 hN hF p.length 0 none (by omega) (fun q hq=>by omega) ?_)
   rw [hs]
   have h:=fair_l2 hN hF hB hv u.length 0 (by omega)
   rw [first_lists.1,(first_lists (r:=r) (z:=z) (m:=am.2)).2] at h
   exact h
  ·exact ih fix r lam D hF (by omega)
theorem FS.start (r:Nat → Rat):FS p u (fun _=>false) r 0 1 where
 fill:=Net.Fill.start (fun q hq=>(cap_bd hN hq).1) r
 lam0:=Rat.le_refl
 rb:=fun v _ h=>by cases h
 d0:=Nat.one_pos
 dd:=by
  have h6:=hN.u6
  have h1:=cnt_m u.length (fun _=>false)
  have h2:=dens_mono (a:=cnt u.length (fun _=>false)) (b:=6) (by omega)
  rw [dens_six] at h2
  omega
theorem ev_fair:∃ x,FairR p u x ∧ Ev (fun k=>shares_net_fair.f k p u) (encL x):=by
 have h6:=hN.u6
 obtain ⟨x,hx,hv⟩:=fair_l0 hN z23 (cnt u.length (fun _=>false)) (fun _=>false) (fun _=>0) 0 1 (FS.start hN _) (Nat.le_refl _)
 refine ⟨x,hx,?_⟩
 unfold shares_net_fair.f
 refine Ev.congr (fun k=>if_pos (by omega)) (Ev.congr (fun k=>if_pos (by omega)) (Ev.congr (fun k=>if_pos (by omega)) ?_))
 rw [Int.toNat_natCast,tab_rep,tab_rep]
 exact hv
end
end Go.Proofs.Ytjohcjfmlhihbaa.P
namespace Go.Proofs.Ytjohcjfmlhihbaa.G
open Go.RowKit Go.Proofs.YtjohcjfmlhihbaaW.PrintWords Go.Proofs.YtjohcjfmlhihbaaW.PrintLast Go.Proofs.YtjohcjfmlhihbaaW.PrintMore
set_option maxHeartbeats 8000000
set_option maxRecDepth 100000
attribute [local go_sem] cond_true cond_false fld23_0 fld23_1 fld45_0 fld45_1 fld109_0 fld109_1 fld94_0 fld94_1 max2_int min2_int max_two min_two max_three min_three max_four min_four
mutual
def numnahref07_Fair.l0:Nat → List Int → List (S45) → List (S23) → List Bool → Int → Option ((List (S23)))
 | 0,_,_,_,_,_=>none
 | k + 1,x0,x1,x5,x6,x7=>if x7 < (x1.length:Int) then ((numnahref07_Whole.f 0).bind fun D9=>(if 0 ≤ x7 then (if x7 < (x5.length:Int) then (numnahref07_Fair.l0 k x0 x1 (x5.set (x7:Int).toNat (⟨D9.1,D9.2⟩:S23)) x6 (wrap64 (x7 + 1))) else (none)) else (none))) else (numnahref07_Fair.l1 k x0 x1 x5 x6 (x1.length:Int))
def numnahref07_Fair.l1:Nat → List Int → List (S45) → List (S23) → List Bool → Int → Option ((List (S23)))
 | 0,_,_,_,_,_=>none
 | k + 1,x0,x1,x5,x6,x8=>if x8 > 0 then (numnahref07_Fair.l2 k x0 x1 x5 x6 x8 (-1) 0 0 0) else (some x5)
def numnahref07_Fair.l2:Nat → List Int → List (S45) → List (S23) → List Bool → Int → Int → Int → Int → Int → Option ((List (S23)))
 | 0,_,_,_,_,_,_,_,_,_=>none
 | k + 1,x0,x1,x5,x6,x8,q1,o2,d9,e0=>if o2 < (x0.length:Int) then (if 0 ≤ o2 then ((numnahref07_Whole.f (rd x0 o2)).bind fun E0=>(numnahref07_Fair.l3 k x0 x1 x5 x6 x8 q1 o2 0 0 d9 e0 E0.1 E0.2)) else (none)) else (numnahref07_Fair.l4 k x0 x1 x5 x6 x8 q1 0 d9 e0)
def numnahref07_Fair.l3:Nat → List Int → List (S45) → List (S23) → List Bool → Int → Int → Int → Int → Int → Int → Int → Int → Int → Option ((List (S23)))
 | 0,_,_,_,_,_,_,_,_,_,_,_,_,_=>none
 | k + 1,x0,x1,x5,x6,x8,q1,o2,z2,l9,d9,e0,h8,h9=>if l9 < (x1.length:Int) then (if 0 ≤ l9 then ((numnahref07_Has.f k ((rd_T45 x1 l9).f0) ((rd_T45 x1 l9).f1) o2).bind fun C8=>(if C8 = true then (if l9 < (x6.length:Int) then (numnahref07_Fair.j4 k x0 x1 x5 x6 x8 q1 o2 z2 l9 (rdOf false x6 l9) d9 e0 h8 h9) else (none)) else (numnahref07_Fair.j4 k x0 x1 x5 x6 x8 q1 o2 z2 l9 false d9 e0 h8 h9))) else (none)) else (if z2 = 0 then (numnahref07_Fair.l2 k x0 x1 x5 x6 x8 q1 (wrap64 (o2 + 1)) d9 e0) else ((numnahref07_Reduced.f k h8 (wrap64 (h9 * z2))).bind fun q2=>(if q1 < 0 then (numnahref07_Fair.l2 k x0 x1 x5 x6 x8 o2 (wrap64 (o2 + 1)) q2.1 q2.2) else ((numnahref07_Less.f q2.1 q2.2 d9 e0).bind fun C9=>(if C9 = true then (numnahref07_Fair.l2 k x0 x1 x5 x6 x8 o2 (wrap64 (o2 + 1)) q2.1 q2.2) else (numnahref07_Fair.l2 k x0 x1 x5 x6 x8 q1 (wrap64 (o2 + 1)) d9 e0))))))
def numnahref07_Fair.j4:Nat → List Int → List (S45) → List (S23) → List Bool → Int → Int → Int → Int → Int → Bool → Int → Int → Int → Int → Option ((List (S23)))
 | 0,_,_,_,_,_,_,_,_,_,_,_,_,_,_=>none
 | k + 1,x0,x1,x5,x6,x8,q1,o2,z2,l9,x66,d9,e0,h8,h9=>if x66 = true then (if 0 ≤ l9 then (if l9 < (x5.length:Int) then ((numnahref07_Sub.f k h8 h9 ((rd_T23 x5 l9).f0) ((rd_T23 x5 l9).f1)).bind fun q3=>(if l9 < (x1.length:Int) then ((numnahref07_Has.f k ((rd_T45 x1 l9).f0) ((rd_T45 x1 l9).f1) o2).bind fun D0=>(if D0 = true then (if l9 < (x6.length:Int) then (if rdOf false x6 l9 = true then (numnahref07_Fair.l3 k x0 x1 x5 x6 x8 q1 o2 z2 (wrap64 (l9 + 1)) d9 e0 q3.1 q3.2) else (numnahref07_Fair.l3 k x0 x1 x5 x6 x8 q1 o2 (wrap64 (z2 + ((rd_T45 x1 l9).f0))) (wrap64 (l9 + 1)) d9 e0 q3.1 q3.2)) else (none)) else (numnahref07_Fair.l3 k x0 x1 x5 x6 x8 q1 o2 z2 (wrap64 (l9 + 1)) d9 e0 q3.1 q3.2))) else (none))) else (none)) else (none)) else (if 0 ≤ l9 then (if l9 < (x1.length:Int) then ((numnahref07_Has.f k ((rd_T45 x1 l9).f0) ((rd_T45 x1 l9).f1) o2).bind fun D1=>(if D1 = true then (if l9 < (x6.length:Int) then (if rdOf false x6 l9 = true then (numnahref07_Fair.l3 k x0 x1 x5 x6 x8 q1 o2 z2 (wrap64 (l9 + 1)) d9 e0 h8 h9) else (numnahref07_Fair.l3 k x0 x1 x5 x6 x8 q1 o2 (wrap64 (z2 + ((rd_T45 x1 l9).f0))) (wrap64 (l9 + 1)) d9 e0 h8 h9)) else (none)) else (numnahref07_Fair.l3 k x0 x1 x5 x6 x8 q1 o2 z2 (wrap64 (l9 + 1)) d9 e0 h8 h9))) else (none)) else (none))
def numnahref07_Fair.l4:Nat → List Int → List (S45) → List (S23) → List Bool → Int → Int → Int → Int → Int → Option ((List (S23)))
 | 0,_,_,_,_,_,_,_,_,_=>none
 | k + 1,x0,x1,x5,x6,x8,q1,x2,d9,e0=>if x2 < (x1.length:Int) then (if 0 ≤ x2 then ((numnahref07_Has.f k ((rd_T45 x1 x2).f0) ((rd_T45 x1 x2).f1) q1).bind fun D2=>(if D2 = true then (if x2 < (x6.length:Int) then (if rdOf false x6 x2 = true then (numnahref07_Fair.l4 k x0 x1 x5 x6 x8 q1 (wrap64 (x2 + 1)) d9 e0) else ((numnahref07_Reduced.f k (wrap64 (d9 * ((rd_T45 x1 x2).f0))) e0).bind fun n6=>(if x2 < (x5.length:Int) then (numnahref07_Fair.l4 k x0 x1 (x5.set (x2:Int).toNat (⟨n6.1,n6.2⟩:S23)) (x6.set (x2:Int).toNat true) (wrap64 (x8 - 1)) q1 (wrap64 (x2 + 1)) d9 e0) else (none)))) else (none)) else (numnahref07_Fair.l4 k x0 x1 x5 x6 x8 q1 (wrap64 (x2 + 1)) d9 e0))) else (none)) else (numnahref07_Fair.l1 k x0 x1 x5 x6 x8)
end
def numnahref07_Fair.f (k:Nat) (l0:List Int) (l1:List (S45)):Option ((List (S23))):=if 0 ≤ (l1.length:Int) then (if ((l1.length:Int):Int).toNat ≤ 17592186044416 then (if ((l1.length:Int):Int).toNat ≤ 281474976710656 then (numnahref07_Fair.l0 k l0 l1 (List.replicate ((l1.length:Int):Int).toNat z23) (List.replicate ((l1.length:Int):Int).toNat false) 0) else (none)) else (none)) else (none)
theorem numnahref07_Fair.mono_l:∀ k,(∀ y0 y1 y2 y3 y4,LeO (numnahref07_Fair.l0 k y0 y1 y2 y3 y4) (numnahref07_Fair.l0 (k + 1) y0 y1 y2 y3 y4)) ∧ (∀ y0 y1 y2 y3 y4,LeO (numnahref07_Fair.l1 k y0 y1 y2 y3 y4) (numnahref07_Fair.l1 (k + 1) y0 y1 y2 y3 y4)) ∧ (∀ y0 y1 y2 y3 y4 y5 y6 y7 y8,LeO (numnahref07_Fair.l2 k y0 y1 y2 y3 y4 y5 y6 y7 y8) (numnahref07_Fair.l2 (k + 1) y0 y1 y2 y3 y4 y5 y6 y7 y8)) ∧ (∀ y0 y1 y2 y3 y4 y5 y6 y7 y8 y9 G7 G8 G9,LeO (numnahref07_Fair.l3 k y0 y1 y2 y3 y4 y5 y6 y7 y8 y9 G7 G8 G9) (numnahref07_Fair.l3 (k + 1) y0 y1 y2 y3 y4 y5 y6 y7 y8 y9 G7 G8 G9)) ∧ (∀ y0 y1 y2 y3 y4 y5 y6 y7 y8 y9 G7 G8 G9 y13,LeO (numnahref07_Fair.j4 k y0 y1 y2 y3 y4 y5 y6 y7 y8 y9 G7 G8 G9 y13) (numnahref07_Fair.j4 (k + 1) y0 y1 y2 y3 y4 y5 y6 y7 y8 y9 G7 G8 G9 y13)) ∧ (∀ y0 y1 y2 y3 y4 y5 y6 y7 y8,LeO (numnahref07_Fair.l4 k y0 y1 y2 y3 y4 y5 y6 y7 y8) (numnahref07_Fair.l4 (k + 1) y0 y1 y2 y3 y4 y5 y6 y7 y8))
 | 0=>⟨fun _ _ _ _ _ r h=>by simp [numnahref07_Fair.l0] at h,fun _ _ _ _ _ r h=>by simp [numnahref07_Fair.l1] at h,fun _ _ _ _ _ _ _ _ _ r h=>by simp [numnahref07_Fair.l2] at h,fun _ _ _ _ _ _ _ _ _ _ _ _ _ r h=>by simp [numnahref07_Fair.l3] at h,fun _ _ _ _ _ _ _ _ _ _ _ _ _ _ r h=>by simp [numnahref07_Fair.j4] at h,fun _ _ _ _ _ _ _ _ _ r h=>by simp [numnahref07_Fair.l4] at h⟩
 | k + 1=>by
  obtain ⟨E1,E2,E3,E4,E5,E6⟩:=numnahref07_Fair.mono_l k
  refine ⟨?_,?_,?_,?_,?_,?_⟩
  ·intro y0 y1 y2 y3 y4
   unfold numnahref07_Fair.l0
   repeat' first
   | (with_reducible first | exact E1 _ _ _ _ _ | exact E2 _ _ _ _ _ | exact E3 _ _ _ _ _ _ _ _ _ | exact E4 _ _ _ _ _ _ _ _ _ _ _ _ _ | exact E5 _ _ _ _ _ _ _ _ _ _ _ _ _ _ | exact E6 _ _ _ _ _ _ _ _ _ | exact numnahref07_Has.mono _ _ _ _ | exact numnahref07_Reduced.mono _ _ _ | exact numnahref07_Sub.mono _ _ _ _ _ | exact LeO.refl _ | exact LeO.none _ | refine LeO.ite ?_ ?_ | refine LeO.bind ?_ (fun _=>?_))
   | exact LeO.none _ | refine LeO.ite ?_ ?_ | refine LeO.bind ?_ (fun _=>?_)
  ·intro y0 y1 y2 y3 y4
   unfold numnahref07_Fair.l1
   repeat' first
   | (with_reducible first | exact E1 _ _ _ _ _ | exact E2 _ _ _ _ _ | exact E3 _ _ _ _ _ _ _ _ _ | exact E4 _ _ _ _ _ _ _ _ _ _ _ _ _ | exact E5 _ _ _ _ _ _ _ _ _ _ _ _ _ _ | exact E6 _ _ _ _ _ _ _ _ _ | exact numnahref07_Has.mono _ _ _ _ | exact numnahref07_Reduced.mono _ _ _ | exact numnahref07_Sub.mono _ _ _ _ _ | exact LeO.refl _ | exact LeO.none _ | refine LeO.ite ?_ ?_ | refine LeO.bind ?_ (fun _=>?_))
   | exact LeO.none _ | refine LeO.ite ?_ ?_ | refine LeO.bind ?_ (fun _=>?_)
  ·intro y0 y1 y2 y3 y4 y5 y6 y7 y8
   unfold numnahref07_Fair.l2
   repeat' first
   | (with_reducible first | exact E1 _ _ _ _ _ | exact E2 _ _ _ _ _ | exact E3 _ _ _ _ _ _ _ _ _ | exact E4 _ _ _ _ _ _ _ _ _ _ _ _ _ | exact E5 _ _ _ _ _ _ _ _ _ _ _ _ _ _ | exact E6 _ _ _ _ _ _ _ _ _ | exact numnahref07_Has.mono _ _ _ _ | exact numnahref07_Reduced.mono _ _ _ | exact numnahref07_Sub.mono _ _ _ _ _ | exact LeO.refl _ | exact LeO.none _ | refine LeO.ite ?_ ?_ | refine LeO.bind ?_ (fun _=>?_))
   | exact LeO.none _ | refine LeO.ite ?_ ?_ | refine LeO.bind ?_ (fun _=>?_)
  ·intro y0 y1 y2 y3 y4 y5 y6 y7 y8 y9 G7 G8 G9
   unfold numnahref07_Fair.l3
   repeat' first
   | (with_reducible first | exact E1 _ _ _ _ _ | exact E2 _ _ _ _ _ | exact E3 _ _ _ _ _ _ _ _ _ | exact E4 _ _ _ _ _ _ _ _ _ _ _ _ _ | exact E5 _ _ _ _ _ _ _ _ _ _ _ _ _ _ | exact E6 _ _ _ _ _ _ _ _ _ | exact numnahref07_Has.mono _ _ _ _ | exact numnahref07_Reduced.mono _ _ _ | exact numnahref07_Sub.mono _ _ _ _ _ | exact LeO.refl _ | exact LeO.none _ | refine LeO.ite ?_ ?_ | refine LeO.bind ?_ (fun _=>?_))
   | exact LeO.none _ | refine LeO.ite ?_ ?_ | refine LeO.bind ?_ (fun _=>?_)
  ·intro y0 y1 y2 y3 y4 y5 y6 y7 y8 y9 G7 G8 G9 y13
   unfold numnahref07_Fair.j4
   repeat' first
   | (with_reducible first | exact E1 _ _ _ _ _ | exact E2 _ _ _ _ _ | exact E3 _ _ _ _ _ _ _ _ _ | exact E4 _ _ _ _ _ _ _ _ _ _ _ _ _ | exact E5 _ _ _ _ _ _ _ _ _ _ _ _ _ _ | exact E6 _ _ _ _ _ _ _ _ _ | exact numnahref07_Has.mono _ _ _ _ | exact numnahref07_Reduced.mono _ _ _ | exact numnahref07_Sub.mono _ _ _ _ _ | exact LeO.refl _ | exact LeO.none _ | refine LeO.ite ?_ ?_ | refine LeO.bind ?_ (fun _=>?_))
   | exact LeO.none _ | refine LeO.ite ?_ ?_ | refine LeO.bind ?_ (fun _=>?_)
  intro y0 y1 y2 y3 y4 y5 y6 y7 y8
  unfold numnahref07_Fair.l4
  repeat' first
  | (with_reducible first | exact E1 _ _ _ _ _ | exact E2 _ _ _ _ _ | exact E3 _ _ _ _ _ _ _ _ _ | exact E4 _ _ _ _ _ _ _ _ _ _ _ _ _ | exact E5 _ _ _ _ _ _ _ _ _ _ _ _ _ _ | exact E6 _ _ _ _ _ _ _ _ _ | exact numnahref07_Has.mono _ _ _ _ | exact numnahref07_Reduced.mono _ _ _ | exact numnahref07_Sub.mono _ _ _ _ _ | exact LeO.refl _ | exact LeO.none _ | refine LeO.ite ?_ ?_ | refine LeO.bind ?_ (fun _=>?_))
  | exact LeO.none _ | refine LeO.ite ?_ ?_ | refine LeO.bind ?_ (fun _=>?_)
theorem numnahref07_Fair.mono:∀ a0 a1 k,LeO (numnahref07_Fair.f k a0 a1) (numnahref07_Fair.f (k + 1) a0 a1):=by
 intro a0 a1 k
 obtain ⟨E1,E2,E3,E4,E5,E6⟩:=numnahref07_Fair.mono_l k
 unfold numnahref07_Fair.f
 repeat' first
   | (with_reducible first | exact E1 _ _ _ _ _ | exact E2 _ _ _ _ _ | exact E3 _ _ _ _ _ _ _ _ _ | exact E4 _ _ _ _ _ _ _ _ _ _ _ _ _ | exact E5 _ _ _ _ _ _ _ _ _ _ _ _ _ _ | exact E6 _ _ _ _ _ _ _ _ _ | exact numnahref07_Has.mono _ _ _ _ | exact numnahref07_Reduced.mono _ _ _ | exact numnahref07_Sub.mono _ _ _ _ _ | exact LeO.refl _ | exact LeO.none _ | refine LeO.ite ?_ ?_ | refine LeO.bind ?_ (fun _=>?_))
   | exact LeO.none _ | refine LeO.ite ?_ ?_ | refine LeO.bind ?_ (fun _=>?_)
def numnahref07_Fair.T30:Bool × List (List Nat × List Nat):=(true,[([],[]),([],[]),([],[]),([2],[2]),([],[]),([],[]),([4,5],[4,5]),([6],[6]),([7],[7]),([3,8],[3,8]),([],[]),([10],[10]),([9,11],[9,11]),([0,1,0,1,2,3,4,5,6,7,8,9,10,11,12],[0,1]),([13,12,12,0,1,2,3,4,5,6,7,8,9,10,11,12],[12,13])])
def numnahref07_Fair.B30:List Nat:=[0,0,0,4,0,0,48,112,240,508,0,1024,4092,8191,16383]
theorem numnahref07_Fair.tab30:rtab .any (opsOf Try.f42 30) = numnahref07_Fair.T30:=by kernel_rfl
theorem numnahref07_Fair.bits30:waitsOk numnahref07_Fair.T30.2 numnahref07_Fair.B30 = true:=by kernel_rfl
theorem numnahref07_Fair.calls (k:Nat) (A0:Option Addr) (c0:Nat) (l0:List Int) (A1:Option Addr) (c1:Nat) (l1:List (S45)) (r:List (S23)) (w:World) (hr0:Kd.C (Kd.int .i64) w A0 l0.length l0) (hc0:l0.length ≤ c0) (hr1:Kd.C k45 w A1 l1.length l1) (hc1:l1.length ≤ c1) (h:numnahref07_Fair.f k l0 l1 = some r) :
  Calls Try.prog 42 #[.slice A0 l0.length c0,.slice A1 l1.length c1] w fun e w'=>∃ v0_:Value,e = .returned (v0_) ∧ Kd.R k23 23 w' w.heap.size (fun _=>True) v0_ r ∧ Below w.heap.size w w':=by
 have hu23:=Try.underlying23
 have hu45:=Try.underlying45
 have HR0:=A_ hr0
 have HC0:=A_ hc0
 clear hr0 hc0
 have s4:=A_ hr1
 have HC1:=A_ hc1
 clear hr1 hc1
 have HB:=A_ (Below.refl w.heap.size w)
 have H:(if 0 ≤ (l1.length:Int) then (if ((l1.length:Int):Int).toNat ≤ 17592186044416 then (if ((l1.length:Int):Int).toNat ≤ 281474976710656 then (numnahref07_Fair.l0 k l0 l1 (List.replicate ((l1.length:Int):Int).toNat z23) (List.replicate ((l1.length:Int):Int).toNat false) 0) else (none)) else (none)) else (none)) = some r:=h
 clear h
 replace H:=gd H
 obtain ⟨c3,H⟩:=H
 have c3b0:=eq_true c3
 have c3b1:=decide_eq_true c3
 clear c3
 replace H:=gd H
 obtain ⟨c4,H⟩:=H
 have c4b0:=eq_true c4
 have c4b1:=decide_eq_true c4
 clear c4
 obtain ⟨y833,z3⟩:∃ y_:List (S23),y_ = (List.replicate ((l1.length:Int):Int).toNat z23):=⟨_,rfl⟩
 rw [← z3] at H
 have E7:=A_ z3
 clear z3
 replace H:=gd H
 obtain ⟨c5,H⟩:=H
 have c5b0:=eq_true c5
 have c5b1:=decide_eq_true c5
 clear c5
 obtain ⟨H0,z4⟩:∃ y_:List Bool,y_ = (List.replicate ((l1.length:Int):Int).toNat false):=⟨_,rfl⟩
 rw [← z4] at H
 have E8:=A_ z4
 clear z4
 have H':=A_ H
 clear H
 go_enter Try.func42,Try.ntmps42
 go_wp2_with (first | ((with_reducible refine gate_dst (N:=19) rfl ?_);refine Kd.R_make k23 _ 23 rfl (N:=19) rfl 35 _ _ rfl (l1.length:Int) rfl rfl Try.underlying35 (.agg #[(.int .i64 0),(.int .i64 0)]) 16 info23 rfl (by decide) (by omega) z23 (ok:=fun _=>True) (okp:=fun _=>True) (k23_mkM _ _ _ z23 ) (fun _ hk=>hk) trivial oa_ (Nat.le_trans (Nat.mul_le_mul_right _ (oa_:(l1.length:Int).toNat ≤ 17592186044416)) (by omega)) (Below.refl _ _) (Nat.le_refl _) ?_;intro x3 w6 K9 hb hg_ hnew_;clear hg_ hnew_;(first | rw [← E7.out] at K9 | (simp only [Int.reduceToNat] at K9;rw [← E7.out] at K9));have z5:=A_ (Kd.R_lower K9 (below_size (bl HB)));replace HB:=bB HB hb;clear hb K9) | ((with_reducible refine gate_dst (N:=22) rfl ?_);refine Kd.R_make Kd.bool _ 4 rfl (N:=22) rfl 115 _ _ rfl (l1.length:Int) rfl rfl Try.underlying115 (.bool false) 1 info4 rfl (by decide) (by omega) false (ok:=fun _=>True) (okp:=fun _=>True) rfl (fun _ hk=>hk) trivial oa_ (Nat.le_trans (Nat.mul_le_mul_right _ (oa_:(l1.length:Int).toNat ≤ 281474976710656)) (by omega)) (Below.refl _ _) (Nat.le_refl _) ?_;intro x4 w8 L0 hb hg_ hnew_;clear hg_ hnew_;(first | rw [← E8.out] at L0 | (simp only [Int.reduceToNat] at L0;rw [← E8.out] at L0));have L1:=A_ (Kd.R_lower L0 (below_size (bl HB)));replace z5:=rB z5 hb;replace HB:=bB HB hb;clear hb L0))
 go_loopg [7] k (fun kq v7 w'=>∃ (m4:List (S23)) (j8:Int),v7 = .int .i64 j8 ∧ Aside0 (numnahref07_Fair.l0 kq l0 l1 m4 H0 j8 = some r) ∧ Aside0 (kq ≤ k) ∧ Aside0 (Kd.R k23 23 w' w.heap.size (fun _=>True) x3 m4) ∧ Aside0 (Kd.R Kd.bool 4 w' w.heap.size (fun _=>True) x4 H0) ∧ Aside0 (Below w.heap.size w w'))
 case atStart=>exact ⟨(y833),(0),rf_,H',⟨Nat.le_refl _⟩,⟨kr_ z5⟩,⟨kr_ L1⟩,⟨bl HB⟩⟩
 case round =>
  clear H'
  obtain ⟨m4,j8,rfl,HA,m0,b8,b9,HB⟩:=hrel
  cases gk with
  | zero=>exact absurd HA.out (by simp [numnahref07_Fair.l0])
  | succ k1 =>
   have H:=HA.out
   clear HA
   simp only [numnahref07_Fair.l0] at H
   by_cases c10:j8 < (l1.length:Int)
   ·rw [if_pos c10] at H
    have L2:=decide_eq_true c10
    clear c10
    replace H:=Option.bind_eq_some_iff.mp H
    obtain ⟨⟨x9,z0⟩,A110,H⟩:=H
    dsimp only at H
    have A11:=A_ A110
    clear A110
    replace H:=gd H
    obtain ⟨c12,H⟩:=H
    have c12b0:=decide_eq_true c12
    clear c12
    replace H:=gd H
    obtain ⟨c13,H⟩:=H
    have c13b0:=decide_eq_true c13
    clear c13
    obtain ⟨L3,z6⟩:∃ y_:List (S23),y_ = (m4.set (j8:Int).toNat (⟨x9,z0⟩:S23)):=⟨_,rfl⟩
    rw [← z6] at H
    have L4:=A_ z6
    clear z6
    have H':=A_ H
    clear H
    go_wp2_with (first | ((with_reducible refine gate_callee (f:=23) rfl ?_);refine gL (some 31) Try.func23 #[.int .i64 0] ?_;(with_reducible refine (numnahref07_Whole.calls 0 x9 z0 _ A11.out).mono ?_);rintro e H1 ⟨rfl,hb⟩;refine ⟨_,rfl,?_⟩;replace b8:=rB b8 hb;replace b9:=rB b9 hb;replace HB:=bB HB hb;(try clear hb);have p14:0 ≤ (j8:Int):=oa_;have q14:(j8:Int) < ((m4.length:Int):Int):=oa_;obtain ⟨q0,H2,L5,L6,gl14,cl14,L7⟩:=Kd.R_form b8.out (by omega);(first | cases L5 | (injection L5 with ea_ en_ ec_;(first | subst ea_ | (injection ea_ with ea_;subst ea_));subst ec_;clear en_));have L8:=A_ L6;have GG14:=A_ L7;clear L6 gl14 L7;obtain ⟨ce14,L9,M0,z7,z8⟩:=Kd.R_elem b8.out z23 (j8:Int) p14 q14;obtain rfl:=k23_openM M0;have hx14_0:H1.cell? ⟨q0,(j8:Int).toNat * 2,none⟩ = some (.int .i64 ((rd_T23 m4 j8).f0)):=z7 0 _ rfl;have hx14_1:H1.cell? ⟨q0,(j8:Int).toNat * 2 + 1,none⟩ = some (.int .i64 ((rd_T23 m4 j8).f1)):=z7 1 _ rfl;have hf14_0:H1.frozen? ⟨q0,(j8:Int).toNat * 2,none⟩ = false:=z8 0;have hf14_1:H1.frozen? ⟨q0,(j8:Int).toNat * 2 + 1,none⟩ = false:=z8 1;clear L9 z7 z8 M0;replace p14:=eq_true p14;replace q14:=eq_true q14;have M1:=A_ (show Kd.R k23 23 H1 w.heap.size (fun _=>True) (.slice (some ⟨q0,0,none⟩) m4.length H2) m4 from (rs b8));obtain ⟨ce16,E9,M2,s5,z9⟩:=Kd.R_elem M1.out z23 (j8:Int) oa_ (by have h_:(j8:Int) < ((m4.length:Int):Int):=oa_;first | exact h_ | (have e_:=(Kd.R_reads' b8.out).1;omega) | simpa using h_);obtain rfl:=k23_openM M2;have H3:=Kd.R_seg M1.out (j8:Int) oa_ (by have h_:(j8:Int) < ((m4.length:Int):Int):=oa_;first | exact h_ | (have e_:=(Kd.R_reads' b8.out).1;omega) | simpa using h_) (seg:=[.int .i64 x9,.int .i64 z0]) (j:=0) E9 s5 (show 2 ≤ 2 from by decide) (x':=(⟨x9,z0⟩:S23)) (k23_mkM _ _ _ (⟨x9,z0⟩:S23) ) (fun _ hk=>hk);have H4:=s5 0 _ rfl;(try simp only [show (k23).sz = 2 from rfl,Nat.mul_one,Nat.add_zero] at H4);have H5:=z9 0;(try simp only [show (k23).sz = 2 from rfl,Nat.mul_one,Nat.add_zero] at H5);have H6:=s5 1 _ rfl;(try simp only [show (k23).sz = 2 from rfl,Nat.mul_one,Nat.add_zero] at H6);have H7:=z9 1;(try simp only [show (k23).sz = 2 from rfl,Nat.mul_one,Nat.add_zero] at H7);clear E9 s5 z9 M2) | ((with_reducible refine gate_store (t:=23) (p:=32) rfl ?_);refine store_event (t:=23) (p:=32) (v:=?vo_w17) (w1:=((H1.setCell ⟨q0,(j8:Int).toNat * 2,none⟩ (.int .i64 x9)).setCell ⟨q0,(j8:Int).toNat * 2 + 1,none⟩ (.int .i64 z0))) ?hg ?ho ?hn ?hr ?_;(case ho=>rfl);(case hg=>rfl);(case hn=>rfl);(case hr=>first | (go_simp;done) | (go_simp;rfl));intro w17 hw;have hg:H1.grownBy w17 (some q0):=(by rw [hw];exact H3.2);have hp_:Kd.R k23 23 w17 w.heap.size (fun _=>True) (.slice (some ⟨q0,0,none⟩) m4.length H2) L3:=(by rw [hw,L4.out];exact H3.1);clear H3;replace b9:=A_ (Kd.R_over' (v:=(.slice (some ⟨q0,0,none⟩) m4.length H2)) (rs b9) (Kd.R_typed b8.out) (by decide) hg);replace b8:=A_ hp_;replace HB:=A_ ((by rw [hw];exact below_set (below_set (HB.out) L8.out) L8.out:Below w.heap.size w w17));clear hg hw hp_))
    go_roundg k1
    case measure=>have:=m0.out;omega
    case rel=>exact ⟨(L3),(wrap64 (j8 + 1)),rf_,H',⟨by have:=m0.out;omega⟩,⟨kr_ b8⟩,⟨kr_ b9⟩,⟨bl HB⟩⟩
   rw [if_neg c10] at H
   have L2:=decide_eq_false c10
   clear c10
   have H':=A_ H
   clear H
   go_wp2
   go_loopg [8] k1 (fun kq v8 w'=>∃ (e5:List (S23)) (e7:List Bool) (h6:Int),v8 = .int .i64 h6 ∧ Aside0 (numnahref07_Fair.l1 kq l0 l1 e5 e7 h6 = some r) ∧ Aside0 (kq ≤ k1) ∧ Aside0 (Kd.R k23 23 w' w.heap.size (fun _=>True) x3 e5) ∧ Aside0 (Kd.R Kd.bool 4 w' w.heap.size (fun _=>True) x4 e7) ∧ Aside0 (Below w.heap.size w w'))
   case atStart=>exact ⟨(m4),(H0),((l1.length:Int)),rf_,H',⟨Nat.le_refl _⟩,⟨kr_ b8⟩,⟨kr_ b9⟩,⟨bl HB⟩⟩
   case round =>
    clear H'
    obtain ⟨e5,e7,h6,rfl,HA,m2,b8,b9,HB⟩:=hrel
    cases gk with
    | zero=>exact absurd HA.out (by simp [numnahref07_Fair.l1])
    | succ k2 =>
     have H:=HA.out
     clear HA
     simp only [numnahref07_Fair.l1] at H
     by_cases K5:h6 > 0
     case neg =>
      rw [if_neg K5] at H
      have M3:=decide_eq_false K5
      clear K5
      obtain rfl:=Option.some.inj H
      go_wp2
      go_ret
      exact ⟨_,by first | rfl | (simp [errW_none,errW_some] <;> rfl) | (simp [*,errW_none,errW_some] <;> rfl),by (with_reducible repeat (first | apply Kd.R_alloc | apply Kd.R_drewN | apply Kd.R_drew));exact b8.out,bl HB⟩
     rw [if_pos K5] at H
     have M3:=decide_eq_true K5
     clear K5
     have H':=A_ H
     clear H
     go_wp2_with (first | ((with_reducible refine gate_dst (N:=9) rfl ?_);refine bx 9 #[.int .i64 0,.int .i64 0] 23 ?_;intro d2 hg w19 hbox hb;have b1:=A_ hbox;have M4:=gw hg HB;have GE842:=M4;replace b8:=A_ (Kd.R_below (Kd.R_elderB (rs b8) d2 (Nat.le_of_eq hg.symm)) hb);replace b9:=rB b9 hb;replace HB:=bB HB hb;clear hb hbox hg;have S6:w19.cell? ⟨d2,0,none⟩ = some (.int .i64 0):=cz b1 0;have S7:w19.cell? ⟨d2,1,none⟩ = some (.int .i64 0):=cz b1 1;have S8:=blk_frozen b1.out 0;have S9:=blk_frozen b1.out 1))
     go_loopg [10,11] k2 (fun kq v10 v11 w'=>∃ (e2:Int) (d1:Int) (b7:Int) (b6:Int),v10 = .int .i64 e2 ∧ v11 = .int .i64 d1 ∧ Aside0 (numnahref07_Fair.l2 kq l0 l1 e5 e7 h6 e2 d1 b7 b6 = some r) ∧ Aside0 (kq ≤ k2) ∧ Aside0 (Kd.R k23 23 w' w.heap.size (fun k_=>k_ ≠ d2) x3 e5) ∧ Aside0 (Kd.R Kd.bool 4 w' w.heap.size (fun _=>True) x4 e7) ∧ Aside0 (w'.heap[d2]? = some (.cells #[.int .i64 b7,.int .i64 b6] 23 (0,0))) ∧ Aside0 (Below w.heap.size w w'))
     case atStart=>exact ⟨((-1)),(0),(0),(0),rf_,rf_,H',⟨Nat.le_refl _⟩,⟨by (with_reducible repeat (first | apply Kd.R_alloc | apply Kd.R_drewN | apply Kd.R_drew));exact Kd.R_mono (Kd.R_far (p:=⟨d2,1,none⟩) (Kd.R_far (p:=⟨d2,0,none⟩) (Kd.R_mono b8.out (fun k_ hk=>(⟨hk,hk.2⟩:_ ∧ k_ ≠ d2))) (fun _ hk=>hk.2) (.int .i64 0)) (fun _ hk=>hk.2) (.int .i64 0)) (fun _ hk=>hk.1.2)⟩,⟨by (with_reducible repeat (first | apply Kd.R_alloc | apply Kd.R_drewN | apply Kd.R_drew));exact Kd.R_mono (Kd.R_far (p:=⟨d2,1,none⟩) (Kd.R_far (p:=⟨d2,0,none⟩) (Kd.R_types b9.out b1.out (by decide)) (fun _ hk=>hk.2) (.int .i64 0)) (fun _ hk=>hk.2) (.int .i64 0)) (fun _ hk=>trivial)⟩,⟨by (with_reducible repeat (first | refine blk_drewN ?_ _ | refine blk_drew ?_ | refine blk_alloc ?_ _));refine blk_put (cs:=#[.int .i64 0,.int .i64 0]) ?_ 1 _ rfl;(with_reducible repeat (first | refine blk_drewN ?_ _ | refine blk_drew ?_ | refine blk_alloc ?_ _));refine blk_put (cs:=#[.int .i64 0,.int .i64 0]) ?_ 0 _ rfl;(with_reducible repeat (first | refine blk_drewN ?_ _ | refine blk_drew ?_ | refine blk_alloc ?_ _));exact b1.out⟩,⟨bl HB⟩⟩
     case round =>
      clear H'
      obtain ⟨e2,d1,b7,b6,rfl,rfl,HA,m3,b8,b9,b1,HB⟩:=hrel
      cases gk with
      | zero=>exact absurd HA.out (by simp [numnahref07_Fair.l2])
      | succ k3 =>
       have H:=HA.out
       clear HA
       simp only [numnahref07_Fair.l2] at H
       by_cases K6:d1 < (l0.length:Int)
       case neg =>
        rw [if_neg K6] at H
        have M5:=decide_eq_false K6
        clear K6
        have H':=A_ H
        clear H
        go_wp2
        go_loopg [8,16] k3 (fun kq v8 v16 w'=>∃ (l5:List (S23)) (h7:List Bool) (n7:Int) (b5:Int) (d4:Int) (d5:Int),v8 = .int .i64 n7 ∧ v16 = .int .i64 b5 ∧ Aside0 (numnahref07_Fair.l4 kq l0 l1 l5 h7 n7 e2 b5 d4 d5 = some r) ∧ Aside0 (kq ≤ k3) ∧ Aside0 (Kd.R k23 23 w' w.heap.size (fun k_=>k_ ≠ d2) x3 l5) ∧ Aside0 (Kd.R Kd.bool 4 w' w.heap.size (fun _=>True) x4 h7) ∧ Aside0 (w'.heap[d2]? = some (.cells #[.int .i64 d4,.int .i64 d5] 23 (0,0))) ∧ Aside0 (Below w.heap.size w w'))
        case atStart=>exact ⟨(e5),(e7),(h6),(0),(b7),(b6),rf_,rf_,H',⟨Nat.le_refl _⟩,⟨kr_ b8⟩,⟨kr_ b9⟩,⟨dr_ b1⟩,⟨bl HB⟩⟩
        case round =>
         clear H'
         obtain ⟨l5,h7,n7,b5,d4,d5,rfl,rfl,HA,m1,b8,b9,b1,HB⟩:=hrel
         cases gk with
         | zero=>exact absurd HA.out (by simp [numnahref07_Fair.l4])
         | succ k4 =>
          have H:=HA.out
          clear HA
          simp only [numnahref07_Fair.l4] at H
          by_cases z1:b5 < (l1.length:Int)
          case neg =>
           rw [if_neg z1] at H
           have H8:=decide_eq_false z1
           clear z1
           have H':=A_ H
           clear H
           go_wp2
           go_roundg k4
           case measure=>have:=m0.out;have:=m2.out;have:=m3.out;have:=m1.out;omega
           case rel=>exact ⟨(l5),(h7),(n7),rf_,H',⟨by have:=m0.out;have:=m2.out;have:=m3.out;have:=m1.out;omega⟩,⟨by (with_reducible repeat (first | apply Kd.R_alloc | apply Kd.R_drewN | apply Kd.R_drew));exact Kd.R_mono b8.out (fun _ hk=>trivial)⟩,⟨kr_ b9⟩,⟨bl HB⟩⟩
          rw [if_pos z1] at H
          have H8:=decide_eq_true z1
          clear z1
          replace H:=gd H
          obtain ⟨M6,H⟩:=H
          have c113b0:=decide_eq_true M6
          clear M6
          replace H:=Option.bind_eq_some_iff.mp H
          obtain ⟨D2,F0,H⟩:=H
          replace H:(if D2 = true then (if b5 < (h7.length:Int) then (if rdOf false h7 b5 = true then (numnahref07_Fair.l4 k4 l0 l1 l5 h7 n7 e2 (wrap64 (b5 + 1)) d4 d5) else ((numnahref07_Reduced.f k4 (wrap64 (d4 * ((rd_T45 l1 b5).f0))) d5).bind fun n6=>(if b5 < (l5.length:Int) then (numnahref07_Fair.l4 k4 l0 l1 (l5.set (b5:Int).toNat (⟨n6.1,n6.2⟩:S23)) (h7.set (b5:Int).toNat true) (wrap64 (n7 - 1)) e2 (wrap64 (b5 + 1)) d4 d5) else (none)))) else (none)) else (numnahref07_Fair.l4 k4 l0 l1 l5 h7 n7 e2 (wrap64 (b5 + 1)) d4 d5)) = some r:=H
          have H9:=A_ F0
          clear F0
          by_cases D3:D2 = true
          case neg =>
           replace D3:=Bool.eq_false_iff.mpr D3
           subst D3
           rw [if_neg (show ¬ (false = true) by decide)] at H
           have H':=A_ H
           clear H
           have o3:0 ≤ (b5:Int):=oa_
           have o4:b5 < (l1.length:Int):=oa_
           obtain ⟨q4,o5,o6,A2,i0,i1,i2,i3⟩:=at_T45 s4.out b5 o3 o4
           cases A2
           replace i0:=cT HB i0
           replace i1:=cT HB i1
           have m5:=A_ i3
           have m6:=A_ i2
           clear i3 i2
           replace o3:=eq_true o3
           replace o4:=eq_true o4
           go_wp2_with (first | ((with_reducible refine gate_callee (f:=77) rfl ?_);refine gL (some 122) Try.func77 #[.agg #[.int .i64 ((rd_T45 l1 b5).f0),.slice o5 ((rd_T45 l1 b5).f1).length o6],.int .i64 e2] ?_;(with_reducible refine (numnahref07_Has.calls k4 ((rd_T45 l1 b5).f0) _ _ ((rd_T45 l1 b5).f1) e2 false _ ?side1 ?side2 H9.out).mono ?_);(case side1=>exact cB m5 HB);(case side2=>exact m6.out);rintro e w133 ⟨rfl,hb⟩;refine ⟨_,rfl,?_⟩;replace b8:=rB b8 hb;replace b9:=rB b9 hb;replace b1:=kB b1 hb;replace HB:=bB HB hb;(try clear hb)))
           go_roundg k4
           case measure=>have:=m0.out;have:=m2.out;have:=m3.out;have:=m1.out;omega
           case rel=>exact ⟨(l5),(h7),(n7),(wrap64 (b5 + 1)),(d4),(d5),rf_,rf_,H',⟨by have:=m0.out;have:=m2.out;have:=m3.out;have:=m1.out;omega⟩,⟨kr_ b8⟩,⟨kr_ b9⟩,⟨dr_ b1⟩,⟨bl HB⟩⟩
          subst D3
          rw [if_pos rfl] at H
          replace H:=gd H
          obtain ⟨M7,H⟩:=H
          have c116b0:=decide_eq_true M7
          clear M7
          obtain ⟨F1,r1⟩:∃ b_:Bool,b_ = (rdOf false h7 b5):=⟨_,rfl⟩
          replace H:(if F1 = true then (numnahref07_Fair.l4 k4 l0 l1 l5 h7 n7 e2 (wrap64 (b5 + 1)) d4 d5) else ((numnahref07_Reduced.f k4 (wrap64 (d4 * ((rd_T45 l1 b5).f0))) d5).bind fun n6=>(if b5 < (l5.length:Int) then (numnahref07_Fair.l4 k4 l0 l1 (l5.set (b5:Int).toNat (⟨n6.1,n6.2⟩:S23)) (h7.set (b5:Int).toNat true) (wrap64 (n7 - 1)) e2 (wrap64 (b5 + 1)) d4 d5) else (none)))) = some r:=by rw [← r1] at H;exact H
          have A3:=A_ r1
          clear r1
          by_cases D4:F1 = true
          ·subst D4
           rw [if_pos rfl] at H
           have H':=A_ H
           clear H
           have o3:0 ≤ (b5:Int):=oa_
           have o4:b5 < (l1.length:Int):=oa_
           obtain ⟨q4,o5,o6,A2,i0,i1,i2,i3⟩:=at_T45 s4.out b5 o3 o4
           cases A2
           replace i0:=cT HB i0
           replace i1:=cT HB i1
           have m5:=A_ i3
           have m6:=A_ i2
           clear i3 i2
           replace o3:=eq_true o3
           replace o4:=eq_true o4
           go_wp2_with (first | ((with_reducible refine gate_callee (f:=77) rfl ?_);refine gL (some 122) Try.func77 #[.agg #[.int .i64 ((rd_T45 l1 b5).f0),.slice o5 ((rd_T45 l1 b5).f1).length o6],.int .i64 e2] ?_;(with_reducible refine (numnahref07_Has.calls k4 ((rd_T45 l1 b5).f0) _ _ ((rd_T45 l1 b5).f1) e2 true _ ?side1 ?side2 H9.out).mono ?_);(case side1=>exact cB m5 HB);(case side2=>exact m6.out);rintro e w119 ⟨rfl,hb⟩;refine ⟨_,rfl,?_⟩;replace b8:=rB b8 hb;replace b9:=rB b9 hb;replace b1:=kB b1 hb;replace HB:=bB HB hb;(try clear hb);obtain ⟨Ao120,co120,M8⟩:=Kd.R_slice b9.out;subst M8;have r2:0 ≤ (b5:Int):=oa_;have r3:b5 < (h7.length:Int):=oa_;obtain ⟨F2,I0,n9⟩:=Kd.at_bool (Kd.R_reads' b9.out).2.2 b5 r2 r3;(try rw [← A3.out] at n9);cases I0;replace r2:=eq_true r2;replace r3:=eq_true r3))
           go_roundg k4
           case measure=>have:=m0.out;have:=m2.out;have:=m3.out;have:=m1.out;omega
           case rel=>exact ⟨(l5),(h7),(n7),(wrap64 (b5 + 1)),(d4),(d5),rf_,rf_,H',⟨by have:=m0.out;have:=m2.out;have:=m3.out;have:=m1.out;omega⟩,⟨kr_ b8⟩,⟨kr_ b9⟩,⟨dr_ b1⟩,⟨bl HB⟩⟩
          replace D4:=Bool.eq_false_iff.mpr D4
          subst D4
          rw [if_neg (show ¬ (false = true) by decide)] at H
          replace H:=Option.bind_eq_some_iff.mp H
          obtain ⟨⟨o7,o8⟩,A1210,H⟩:=H
          dsimp only at H
          have A121:=A_ A1210
          clear A1210
          replace H:=gd H
          obtain ⟨M9,H⟩:=H
          have c122b0:=decide_eq_true M9
          clear M9
          obtain ⟨N0,A4⟩:∃ y_:List (S23),y_ = (l5.set (b5:Int).toNat (⟨o7,o8⟩:S23)):=⟨_,rfl⟩
          rw [← A4] at H
          have N1:=A_ A4
          clear A4
          obtain ⟨N2,A5⟩:∃ y_:List Bool,y_ = (h7.set (b5:Int).toNat true):=⟨_,rfl⟩
          rw [← A5] at H
          have N3:=A_ A5
          clear A5
          have H':=A_ H
          clear H
          have o3:0 ≤ (b5:Int):=oa_
          have o4:b5 < (l1.length:Int):=oa_
          obtain ⟨q4,o5,o6,A2,i0,i1,i2,i3⟩:=at_T45 s4.out b5 o3 o4
          cases A2
          replace i0:=cT HB i0
          replace i1:=cT HB i1
          have m5:=A_ i3
          have m6:=A_ i2
          clear i3 i2
          replace o3:=eq_true o3
          replace o4:=eq_true o4
          try go_wp2_with (first | ((with_reducible refine gate_callee (f:=77) rfl ?_);refine gL (some 122) Try.func77 #[.agg #[.int .i64 ((rd_T45 l1 b5).f0),.slice o5 ((rd_T45 l1 b5).f1).length o6],.int .i64 e2] ?_;(with_reducible refine (numnahref07_Has.calls k4 ((rd_T45 l1 b5).f0) _ _ ((rd_T45 l1 b5).f1) e2 true _ ?side1 ?side2 H9.out).mono ?_);(case side1=>exact cB m5 HB);(case side2=>exact m6.out);rintro e w125 ⟨rfl,hb⟩;refine ⟨_,rfl,?_⟩;replace b8:=rB b8 hb;replace b9:=rB b9 hb;replace b1:=kB b1 hb;replace HB:=bB HB hb;(try clear hb);obtain ⟨Ao126,A6,N4⟩:=Kd.R_slice b9.out;subst N4;have r2:0 ≤ (b5:Int):=oa_;have r3:b5 < (h7.length:Int):=oa_;obtain ⟨F2,I0,n9⟩:=Kd.at_bool (Kd.R_reads' b9.out).2.2 b5 r2 r3;(try rw [← A3.out] at n9);cases I0;replace r2:=eq_true r2;replace r3:=eq_true r3))
          replace b8:=rD b8
          replace b9:=rD b9
          replace b1:=kD b1
          replace HB:=bD HB
          have I1:0 ≤ (b5:Int):=oa_
          have I2:b5 < (l1.length:Int):=oa_
          obtain ⟨N5,I3,I4,e868,o0,o1,s6,s7⟩:=at_T45 s4.out b5 I1 I2
          have s8:=o1
          have s9:=o0
          obtain rfl:q4 = N5:=(by injection e868)
          replace o0:=cT HB o0
          replace o1:=cT HB o1
          have D5:=A_ s7
          have T0:=A_ s6
          clear s7 s6
          replace I1:=eq_true I1
          replace I2:=eq_true I2
          refine start_ (n:=15) (S:=fun w'=>w'.cell? ⟨d2,0,none⟩ = some (.int .i64 d4) ∧ w'.cell? ⟨d2,1,none⟩ = some (.int .i64 d5) ∧ w'.cell? (q4.add ((b5).toNat * 2)) = some (.int .i64 ((rd_T45 l1 b5).f0)) ∧ w'.cell? ⟨(q4.add ((b5).toNat * 2)).block,(q4.add ((b5).toNat * 2)).off + 1,none⟩ = some (.slice I3 ((rd_T45 l1 b5).f1).length I4)) (ds:=[14]) (ba 15 0) (by kernel_rfl) rfl rfl ⟨cz b1 0,cz b1 1,(cT HB s9),(cT HB s8)⟩ (fun hHeld=>?_);refine with_tabW numnahref07_Fair.tab30 numnahref07_Fair.bits30 (fun HT_ HW_=>?_)
          generalize w125.drew = w127 at b8 b9 b1 HB D5 o0 o1 hHeld ⊢
          refine pq 0 130 1 HT_ ?_
          refine pq 1 131 3 HT_ ?_
          refine pq 2 132 7 HT_ ?_
          refine pq 4 134 23 HT_ ?_
          refine pq 5 135 55 HT_ ?_
          refine pq 6 136 119 HT_ ?_
          refine pq 7 137 247 HT_ ?_
          refine pq 10 140 1271 HT_ ?_
          refine tq 3 133 1279 HT_ HW_ hHeld ?_
          refine tq 8 138 1535 HT_ HW_ hHeld ?_
          refine pq 9 139 2047 HT_ ?_
          refine tq 11 141 4095 HT_ HW_ hHeld ?_
          refine oq 12 142 8191 HT_ (fun K hK=>?_)
          refine gq Try.func34 #[.int .i64 (wrap64 (d4 * ((rd_T45 l1 b5).f0))),.int .i64 d5] ?_
          with_reducible refine (numnahref07_Reduced.calls k4 (wrap64 (d4 * ((rd_T45 l1 b5).f0))) d5 o7 o8 _ A121.out).mono ?_
          rintro e A7 ⟨rfl,hb⟩
          refine ⟨_,rfl,?_⟩
          replace b8:=rB b8 hb
          replace b9:=rB b9 hb
          replace b1:=kB b1 hb
          replace HB:=bB HB hb
          (try clear hb)
          have I5:0 ≤ (b5:Int):=oa_
          have I6:(b5:Int) < ((l5.length:Int):Int):=oa_
          obtain ⟨h2,N6,F3,F4,N7,cl123,F5⟩:=Kd.R_form b8.out (by omega)
          (first | cases F3 | (injection F3 with ea_ en_ ec_;(first | subst ea_ | (injection ea_ with ea_;subst ea_));subst ec_;clear en_))
          have GB123:=A_ F4
          have N8:=A_ F5
          clear F4 N7 F5
          obtain ⟨ce123,I7,F6,r4,r5⟩:=Kd.R_elem b8.out z23 (b5:Int) I5 I6
          obtain rfl:=k23_openM F6
          have U0:World.cell? _ ⟨h2,(b5:Int).toNat * 2,none⟩ = some (.int .i64 ((rd_T23 l5 b5).f0)):=r4 0 _ rfl
          have U1:World.cell? _ ⟨h2,(b5:Int).toNat * 2 + 1,none⟩ = some (.int .i64 ((rd_T23 l5 b5).f1)):=r4 1 _ rfl
          have U2:World.frozen? _ ⟨h2,(b5:Int).toNat * 2,none⟩ = false:=r5 0
          have U3:World.frozen? _ ⟨h2,(b5:Int).toNat * 2 + 1,none⟩ = false:=r5 1
          clear I7 r4 r5 F6
          replace I5:=eq_true I5
          replace I6:=eq_true I6
          obtain ⟨ce129,A8,F7,A9,I8⟩:=Kd.R_elem b8.out z23 (b5:Int) oa_ (by have h_:(b5:Int) < ((l5.length:Int):Int):=oa_;first | exact h_ | (have e_:=(Kd.R_reads' b8.out).1;omega) | simpa using h_)
          obtain rfl:=k23_openM F7
          have B0:=(Kd.R_seg b8.out (b5:Int) oa_ (by have h_:(b5:Int) < ((l5.length:Int):Int):=oa_;first | exact h_ | (have e_:=(Kd.R_reads' b8.out).1;omega) | simpa using h_) (seg:=[.int .i64 o7,.int .i64 o8]) (j:=0) A8 A9 (show 2 ≤ 2 from by decide) (x':=(⟨o7,o8⟩:S23)) (k23_mkM _ _ _ (⟨o7,o8⟩:S23) ) (fun _ hk=>hk)).1
          rw [← N1.out] at B0
          have N9:=A_ B0
          clear A8 A9 I8 F7 B0
          refine hK.out _ _ ⟨cz b1 0,cz b1 1,(cT HB s9),(cT HB s8)⟩ (fun hHeld=>?_)
          clear hK K
          refine nq 142 ?_
          refine pq 13 143 16383 HT_ ?_
          refine last_ (i:=14) (N:=none) (ba 15 32767) rfl rfl (one_of HT_.out (by kernel_rfl)) (by decide) (fun K hK=>?_)
          refine skip_ (w1:=?_) (by rfl) rfl ?_ ?_
          rotate_left
          ·go_simp
           rfl
          refine hK.out _ _ ?_
          clear hK K
          refine done_ (done_of HT_.out (by kernel_rfl)) ?_
          have n0_:Aside0 (Kd.R k23 23 ((A7.setCell ⟨h2,(b5:Int).toNat * 2,none⟩ (.int .i64 o7)).setCell ⟨h2,(b5:Int).toNat * 2 + 1,none⟩ (.int .i64 o8)) w.heap.size (fun k_=>k_ ≠ d2) (.slice (some ⟨h2,0,none⟩) l5.length N6) N0):=⟨kr_ N9⟩
          have n1_:Aside0 (Kd.R Kd.bool 4 ((A7.setCell ⟨h2,(b5:Int).toNat * 2,none⟩ (.int .i64 o7)).setCell ⟨h2,(b5:Int).toNat * 2 + 1,none⟩ (.int .i64 o8)) w.heap.size (fun _=>True) (.slice (some F2) h7.length A6) h7):=⟨by (with_reducible repeat (first | apply Kd.R_alloc | apply Kd.R_drewN | apply Kd.R_drew));exact Kd.R_mono (Kd.R_far (p:=⟨h2,(b5:Int).toNat * 2 + 1,none⟩) (Kd.R_far (p:=⟨h2,(b5:Int).toNat * 2,none⟩) (Kd.R_types b9.out N8.out (by decide)) (fun _ hk=>hk.2) (.int .i64 o7)) (fun _ hk=>hk.2) (.int .i64 o8)) (fun _ hk=>trivial)⟩
          have n2_:Aside0 (((A7.setCell ⟨h2,(b5:Int).toNat * 2,none⟩ (.int .i64 o7)).setCell ⟨h2,(b5:Int).toNat * 2 + 1,none⟩ (.int .i64 o8)).heap[d2]? = some (.cells #[.int .i64 d4,.int .i64 d5] 23 (0,0))):=⟨by (with_reducible repeat (first | refine blk_drewN ?_ _ | refine blk_drew ?_ | refine blk_alloc ?_ _));refine blk_far ?_ (by have h_:=Kd.R_away b8.out (fun _ hk=>hk);intro e_;exact h_ (by rw [e_];rfl)) _;(with_reducible repeat (first | refine blk_drewN ?_ _ | refine blk_drew ?_ | refine blk_alloc ?_ _));refine blk_far ?_ (by have h_:=Kd.R_away b8.out (fun _ hk=>hk);intro e_;exact h_ (by rw [e_];rfl)) _;(with_reducible repeat (first | refine blk_drewN ?_ _ | refine blk_drew ?_ | refine blk_alloc ?_ _));exact b1.out⟩
          have n3_:Aside0 (Below w.heap.size w ((A7.setCell ⟨h2,(b5:Int).toNat * 2,none⟩ (.int .i64 o7)).setCell ⟨h2,(b5:Int).toNat * 2 + 1,none⟩ (.int .i64 o8))):=⟨bl HB⟩
          generalize ((A7.setCell ⟨h2,(b5:Int).toNat * 2,none⟩ (.int .i64 o7)).setCell ⟨h2,(b5:Int).toNat * 2 + 1,none⟩ (.int .i64 o8)) = O0 at n0_ n1_ n2_ n3_ ⊢
          have b8:=n0_
          have b9:=n1_
          have b1:=n2_
          have HB:=n3_
          clear n0_ n1_ n2_ n3_
          have I9:0 ≤ (b5:Int):=oa_
          have J0:(b5:Int) < ((h7.length:Int):Int):=oa_
          obtain ⟨t0,co124,F8,F9,O1,cl124,G0⟩:=Kd.R_form b9.out (by omega)
          (first | cases F8 | (injection F8 with ea_ en_ ec_;(first | subst ea_ | (injection ea_ with ea_;subst ea_));subst ec_;clear en_))
          have O2:=A_ F9
          have GG124:=A_ G0
          clear F9 O1 G0
          (first | simp only [add_plain] at n9 | skip)
          obtain ⟨U4,U5⟩:=Kd.R_celln false b9.out (b5:Int) I9 J0
          replace I9:=eq_true I9
          replace J0:=eq_true J0
          obtain ⟨hy131_,hz131_⟩:=Kd.R_celln false b9.out (b5:Int) oa_ oa_
          have C0:=Kd.R_putg b9.out (b5:Int) true
          try go_wp2_with (first | ((with_reducible refine gate_store (t:=4) (p:=146) rfl ?_);refine store_event (t:=4) (p:=146) (v:=?vo_w132) (w1:=(O0.setCell ⟨t0,(b5:Int).toNat,none⟩ (.bool true))) ?hg ?ho ?hn ?hr ?_;(case ho=>rfl);(case hg=>rfl);(case hn=>rfl);(case hr=>first | (go_simp;done) | (go_simp;rfl));intro J1 hw;have hg:O0.grownBy J1 (some t0):=(by rw [hw];exact C0.2);have hp_:Kd.R Kd.bool 4 J1 w.heap.size (fun _=>True) (.slice (some ⟨t0,0,none⟩) h7.length A6) N2:=(by rw [hw,N3.out];exact C0.1);clear C0;replace b8:=A_ (Kd.R_over' (v:=(.slice (some ⟨t0,0,none⟩) h7.length A6)) (rs b8) (Kd.R_typed b9.out) (by decide) hg);replace b1:=A_ (blk_grown (g:=d2) (o:=.cells #[.int .i64 d4,.int .i64 d5] 23 (0,0)) (kb b1) hg (Kd.R_ne b9.out b1.out (by decide)));replace b9:=A_ hp_;replace HB:=A_ ((by rw [hw];exact below_set (HB.out) O2.out:Below w.heap.size w J1));clear hg hw hp_))
          go_roundg k4
          case measure=>have:=m0.out;have:=m2.out;have:=m3.out;have:=m1.out;omega
          case rel=>exact ⟨(N0),(N2),(wrap64 (n7 - 1)),(wrap64 (b5 + 1)),(d4),(d5),rf_,rf_,H',⟨by have:=m0.out;have:=m2.out;have:=m3.out;have:=m1.out;omega⟩,⟨kr_ b8⟩,⟨kr_ b9⟩,⟨dr_ b1⟩,⟨bl HB⟩⟩
       rw [if_pos K6] at H
       have M5:=decide_eq_true K6
       clear K6
       replace H:=gd H
       obtain ⟨c22,H⟩:=H
       have c22b0:=decide_eq_true c22
       clear c22
       replace H:=Option.bind_eq_some_iff.mp H
       obtain ⟨⟨C1,D6⟩,A230,H⟩:=H
       dsimp only at H
       have A23:=A_ A230
       clear A230
       have H':=A_ H
       clear H
       have J2:0 ≤ (d1:Int):=oa_
       have J3:d1 < (l0.length:Int):=oa_
       obtain ⟨ad843,e843,t1⟩:=Kd.at_int HR0.out d1 J2 J3
       cases e843
       replace t1:=cT HB t1
       replace J2:=eq_true J2
       replace J3:=eq_true J3
       go_wp2_with (first | ((with_reducible refine gate_callee (f:=23) rfl ?_);refine gL (some 48) Try.func23 #[.int .i64 (rd l0 d1)] ?_;(with_reducible refine (numnahref07_Whole.calls (rd l0 d1) C1 D6 _ A23.out).mono ?_);rintro e w24 ⟨rfl,hb⟩;refine ⟨_,rfl,?_⟩;replace b8:=rB b8 hb;replace b9:=rB b9 hb;replace b1:=kB b1 hb;replace HB:=bB HB hb;(try clear hb)) | ((with_reducible refine gate_dst (N:=12) rfl ?_);refine bx 12 #[.int .i64 0,.int .i64 0] 23 ?_;intro d0 hg w25 hbox hb;have b3:=A_ hbox;have o9:=gw hg HB;have GE846:=o9;have d6:=nl hg b1;have e9:=ng hg b1;replace b8:=A_ (Kd.R_below (Kd.R_elderB (rs b8) d0 (Nat.le_of_eq hg.symm)) hb);replace b9:=rB b9 hb;replace b1:=kB b1 hb;replace HB:=bB HB hb;clear hb hbox hg;have hnb26:=e9.out;have hnc26:=d6.out;have U6:w25.cell? ⟨d0,0,none⟩ = some (.int .i64 0):=cz b3 0;have U7:w25.cell? ⟨d0,1,none⟩ = some (.int .i64 0):=cz b3 1;have U8:=blk_frozen b3.out 0;have U9:=blk_frozen b3.out 1))
       go_loopg [13,14] k3 (fun kq v13 v14 w'=>∃ (e3:Int) (b0:Int) (b4:Int) (b2:Int),v13 = .int .i64 e3 ∧ v14 = .int .i64 b0 ∧ Aside0 (numnahref07_Fair.l3 kq l0 l1 e5 e7 h6 e2 d1 e3 b0 b7 b6 b4 b2 = some r) ∧ Aside0 (kq ≤ k3) ∧ Aside0 (Kd.R k23 23 w' w.heap.size (fun k_=>k_ ≠ d2 ∧ k_ ≠ d0) x3 e5) ∧ Aside0 (Kd.R Kd.bool 4 w' w.heap.size (fun _=>True) x4 e7) ∧ Aside0 (w'.heap[d2]? = some (.cells #[.int .i64 b7,.int .i64 b6] 23 (0,0))) ∧ Aside0 (w'.heap[d0]? = some (.cells #[.int .i64 b4,.int .i64 b2] 23 (0,0))) ∧ Aside0 (Below w.heap.size w w'))
       case atStart=>exact ⟨(0),(0),(C1),(D6),rf_,rf_,H',⟨Nat.le_refl _⟩,⟨by (with_reducible repeat (first | apply Kd.R_alloc | apply Kd.R_drewN | apply Kd.R_drew));exact Kd.R_mono (Kd.R_far (p:=⟨d0,1,none⟩) (Kd.R_far (p:=⟨d0,0,none⟩) (Kd.R_mono b8.out (fun k_ hk=>(⟨hk,hk.2⟩:_ ∧ k_ ≠ d0))) (fun _ hk=>hk.2) (.int .i64 C1)) (fun _ hk=>hk.2) (.int .i64 D6)) (fun _ hk=>⟨hk.1.1,hk.1.2⟩)⟩,⟨by (with_reducible repeat (first | apply Kd.R_alloc | apply Kd.R_drewN | apply Kd.R_drew));exact Kd.R_mono (Kd.R_far (p:=⟨d0,1,none⟩) (Kd.R_far (p:=⟨d0,0,none⟩) (Kd.R_types b9.out b3.out (by decide)) (fun _ hk=>hk.2) (.int .i64 C1)) (fun _ hk=>hk.2) (.int .i64 D6)) (fun _ hk=>trivial)⟩,⟨bf2_ d6 d6 b1⟩,⟨by (with_reducible repeat (first | refine blk_drewN ?_ _ | refine blk_drew ?_ | refine blk_alloc ?_ _));refine blk_put (cs:=#[.int .i64 C1,.int .i64 0]) ?_ 1 _ rfl;(with_reducible repeat (first | refine blk_drewN ?_ _ | refine blk_drew ?_ | refine blk_alloc ?_ _));refine blk_put (cs:=#[.int .i64 0,.int .i64 0]) ?_ 0 _ rfl;(with_reducible repeat (first | refine blk_drewN ?_ _ | refine blk_drew ?_ | refine blk_alloc ?_ _));exact b3.out⟩,⟨bl HB⟩⟩
       case round =>
        clear H'
        obtain ⟨e3,b0,b4,b2,rfl,rfl,HA,m1,b8,b9,b1,b3,HB⟩:=hrel
        cases gk with
        | zero=>exact absurd HA.out (by simp [numnahref07_Fair.l3])
        | succ k4 =>
         have H:=HA.out
         clear HA
         simp only [numnahref07_Fair.l3] at H
         by_cases K7:b0 < (l1.length:Int)
         case neg =>
          rw [if_neg K7] at H
          have O3:=decide_eq_false K7
          clear K7
          by_cases J4:e3 = 0
          ·rw [if_pos J4] at H
           have O4:(e3 == 0) = true:=beq_iff_eq.mpr J4
           have O5:(e3 != 0) = false:=bne_eq_false_iff_eq.mpr J4
           clear J4
           have H':=A_ H
           clear H
           go_wp2
           go_roundg k4
           case measure=>have:=m0.out;have:=m2.out;have:=m3.out;have:=m1.out;omega
           case rel=>exact ⟨(e2),(wrap64 (d1 + 1)),(b7),(b6),rf_,rf_,H',⟨by have:=m0.out;have:=m2.out;have:=m3.out;have:=m1.out;omega⟩,⟨by (with_reducible repeat (first | apply Kd.R_alloc | apply Kd.R_drewN | apply Kd.R_drew));exact Kd.R_mono b8.out (fun _ hk=>hk.1)⟩,⟨kr_ b9⟩,⟨dr_ b1⟩,⟨bl HB⟩⟩
          rw [if_neg J4] at H
          have O4:(e3 == 0) = false:=beq_eq_false_iff_ne.mpr J4
          have O5:(e3 != 0) = true:=bne_iff_ne.mpr J4
          replace H:=Option.bind_eq_some_iff.mp H
          obtain ⟨⟨h4,j9⟩,A800,H⟩:=H
          dsimp only at H
          have A80:=A_ A800
          clear A800
          by_cases K8:e2 < 0
          ·rw [if_pos K8] at H
           have O6:=decide_eq_true K8
           clear K8
           have H':=A_ H
           clear H
           have hnb82:=e9.out
           have hnc82:=d6.out
           have V0:wr.cell? ⟨d0,0,none⟩ = some (.int .i64 b4):=cz b3 0
           have V1:wr.cell? ⟨d0,1,none⟩ = some (.int .i64 b2):=cz b3 1
           have V2:=blk_frozen b3.out 0
           have V3:=blk_frozen b3.out 1
           go_wp2_with (first | ((with_reducible refine gate_callee (f:=34) rfl ?_);refine gL (some 101) Try.func34 #[.int .i64 b4,.int .i64 (wrap64 (b2 * e3))] ?_;(with_reducible refine (numnahref07_Reduced.calls k4 b4 (wrap64 (b2 * e3)) h4 j9 _ A80.out).mono ?_);rintro e w84 ⟨rfl,hb⟩;refine ⟨_,rfl,?_⟩;replace b8:=rB b8 hb;replace b9:=rB b9 hb;replace b1:=kB b1 hb;replace b3:=kB b3 hb;replace HB:=bB HB hb;(try clear hb)) | ((with_reducible refine gate_dst (N:=15) rfl ?_);refine bx 15 #[.int .i64 0,.int .i64 0] 23 ?_;intro e4 hg V4 hbox hb;have e8:=A_ hbox;have r0:=gw hg HB;have G1:=r0;have e6:=nl hg b1;have l6:=ng hg b1;have h0:=nl hg b3;have l7:=ng hg b3;replace b8:=A_ (Kd.R_below (Kd.R_elderB (rs b8) e4 (Nat.le_of_eq hg.symm)) hb);replace b9:=rB b9 hb;replace b1:=kB b1 hb;replace b3:=kB b3 hb;replace HB:=bB HB hb;clear hb hbox hg;have hnb86:=l6.out;have hnc86:=e6.out;have hnb87:=l7.out;have hnc87:=h0.out;have V5:V4.cell? ⟨e4,0,none⟩ = some (.int .i64 0):=cz e8 0;have V6:V4.cell? ⟨e4,1,none⟩ = some (.int .i64 0):=cz e8 1;have V7:=blk_frozen e8.out 0;have V8:=blk_frozen e8.out 1;have V9:V4.cell? ⟨d2,0,none⟩ = some (.int .i64 b7):=cz b1 0;have W0:V4.cell? ⟨d2,1,none⟩ = some (.int .i64 b6):=cz b1 1;have W1:=blk_frozen b1.out 0;have W2:=blk_frozen b1.out 1))
           go_roundg k4
           case measure=>have:=m0.out;have:=m2.out;have:=m3.out;have:=m1.out;omega
           case rel=>exact ⟨(d1),(wrap64 (d1 + 1)),(h4),(j9),rf_,rf_,H',⟨by have:=m0.out;have:=m2.out;have:=m3.out;have:=m1.out;omega⟩,⟨by (with_reducible repeat (first | apply Kd.R_alloc | apply Kd.R_drewN | apply Kd.R_drew));exact Kd.R_mono (Kd.R_far (p:=⟨d2,1,none⟩) (Kd.R_far (p:=⟨d2,0,none⟩) (Kd.R_far (p:=⟨e4,1,none⟩) (Kd.R_far (p:=⟨e4,0,none⟩) (Kd.R_mono (Kd.R_mono b8.out (fun k_ hk=>(⟨hk,hk.2⟩:_ ∧ k_ ≠ e4))) (fun k_ hk=>(⟨hk,hk.1.1.1⟩:_ ∧ k_ ≠ d2))) (fun _ hk=>hk.1.2) (.int .i64 h4)) (fun _ hk=>hk.1.2) (.int .i64 j9)) (fun _ hk=>hk.2) (.int .i64 h4)) (fun _ hk=>hk.2) (.int .i64 j9)) (fun _ hk=>hk.1.1.1.1)⟩,⟨by (with_reducible repeat (first | apply Kd.R_alloc | apply Kd.R_drewN | apply Kd.R_drew));exact Kd.R_mono (Kd.R_far (p:=⟨d2,1,none⟩) (Kd.R_far (p:=⟨d2,0,none⟩) (Kd.R_far (p:=⟨e4,1,none⟩) (Kd.R_far (p:=⟨e4,0,none⟩) (Kd.R_types (Kd.R_types b9.out e8.out (by decide)) b1.out (by decide)) (fun _ hk=>hk.1.2) (.int .i64 h4)) (fun _ hk=>hk.1.2) (.int .i64 j9)) (fun _ hk=>hk.2) (.int .i64 h4)) (fun _ hk=>hk.2) (.int .i64 j9)) (fun _ hk=>trivial)⟩,⟨by (with_reducible repeat (first | refine blk_drewN ?_ _ | refine blk_drew ?_ | refine blk_alloc ?_ _));refine blk_put (cs:=#[.int .i64 h4,.int .i64 b6]) ?_ 1 _ rfl;(with_reducible repeat (first | refine blk_drewN ?_ _ | refine blk_drew ?_ | refine blk_alloc ?_ _));refine blk_put (cs:=#[.int .i64 b7,.int .i64 b6]) ?_ 0 _ rfl;(with_reducible repeat (first | refine blk_drewN ?_ _ | refine blk_drew ?_ | refine blk_alloc ?_ _));refine blk_far ?_ e6.out _;(with_reducible repeat (first | refine blk_drewN ?_ _ | refine blk_drew ?_ | refine blk_alloc ?_ _));refine blk_far ?_ e6.out _;(with_reducible repeat (first | refine blk_drewN ?_ _ | refine blk_drew ?_ | refine blk_alloc ?_ _));exact b1.out⟩,⟨bl HB⟩⟩
          rw [if_neg K8] at H
          have O6:=decide_eq_false K8
          clear K8
          replace H:=Option.bind_eq_some_iff.mp H
          obtain ⟨C9,O7,H⟩:=H
          replace H:(if C9 = true then (numnahref07_Fair.l2 k4 l0 l1 e5 e7 h6 d1 (wrap64 (d1 + 1)) h4 j9) else (numnahref07_Fair.l2 k4 l0 l1 e5 e7 h6 e2 (wrap64 (d1 + 1)) b7 b6)) = some r:=H
          have A90:=A_ O7
          clear O7
          by_cases W3:C9 = true
          case neg =>
           replace W3:=Bool.eq_false_iff.mpr W3
           subst W3
           rw [if_neg (show ¬ (false = true) by decide)] at H
           have H':=A_ H
           clear H
           have hnb103:=e9.out
           have hnc103:=d6.out
           have O8:wr.cell? ⟨d0,0,none⟩ = some (.int .i64 b4):=cz b3 0
           have O9:wr.cell? ⟨d0,1,none⟩ = some (.int .i64 b2):=cz b3 1
           have P0:=blk_frozen b3.out 0
           have P1:=blk_frozen b3.out 1
           go_wp2_with (first | ((with_reducible refine gate_callee (f:=34) rfl ?_);refine gL (some 101) Try.func34 #[.int .i64 b4,.int .i64 (wrap64 (b2 * e3))] ?_;(with_reducible refine (numnahref07_Reduced.calls k4 b4 (wrap64 (b2 * e3)) h4 j9 _ A80.out).mono ?_);rintro e w105 ⟨rfl,hb⟩;refine ⟨_,rfl,?_⟩;replace b8:=rB b8 hb;replace b9:=rB b9 hb;replace b1:=kB b1 hb;replace b3:=kB b3 hb;replace HB:=bB HB hb;(try clear hb)) | ((with_reducible refine gate_dst (N:=15) rfl ?_);refine bx 15 #[.int .i64 0,.int .i64 0] 23 ?_;intro e4 hg D7 hbox hb;have e8:=A_ hbox;have r0:=gw hg HB;have G1:=r0;have e6:=nl hg b1;have l6:=ng hg b1;have h0:=nl hg b3;have l7:=ng hg b3;replace b8:=A_ (Kd.R_below (Kd.R_elderB (rs b8) e4 (Nat.le_of_eq hg.symm)) hb);replace b9:=rB b9 hb;replace b1:=kB b1 hb;replace b3:=kB b3 hb;replace HB:=bB HB hb;clear hb hbox hg;have hnb107:=l6.out;have hnc107:=e6.out;have hnb108:=l7.out;have hnc108:=h0.out;have P2:D7.cell? ⟨e4,0,none⟩ = some (.int .i64 0):=cz e8 0;have P3:D7.cell? ⟨e4,1,none⟩ = some (.int .i64 0):=cz e8 1;have P4:=blk_frozen e8.out 0;have P5:=blk_frozen e8.out 1;have P6:D7.cell? ⟨d2,0,none⟩ = some (.int .i64 b7):=cz b1 0;have P7:D7.cell? ⟨d2,1,none⟩ = some (.int .i64 b6):=cz b1 1;have P8:=blk_frozen b1.out 0;have P9:=blk_frozen b1.out 1) | (go_at_call 30;(with_reducible refine (numnahref07_Less.calls h4 j9 b7 b6 false _ A90.out).mono ?_);rintro e w111 ⟨rfl,hb⟩;replace b8:=A_ (Kd.R_below (by (with_reducible repeat (first | apply Kd.R_alloc | apply Kd.R_drewN | apply Kd.R_drew));exact (Kd.R_mono (Kd.R_far (p:=⟨e4,1,none⟩) (Kd.R_far (p:=⟨e4,0,none⟩) (Kd.R_mono b8.out (fun k_ hk=>(⟨hk,hk.2⟩:_ ∧ k_ ≠ e4))) (fun _ hk=>hk.2) (.int .i64 h4)) (fun _ hk=>hk.2) (.int .i64 j9)) (fun _ h_=>h_.1))) hb);replace b9:=A_ (Kd.R_below (by (with_reducible repeat (first | apply Kd.R_alloc | apply Kd.R_drewN | apply Kd.R_drew));exact (Kd.R_mono (Kd.R_far (p:=⟨e4,1,none⟩) (Kd.R_far (p:=⟨e4,0,none⟩) (Kd.R_types b9.out e8.out (by decide)) (fun _ hk=>hk.2) (.int .i64 h4)) (fun _ hk=>hk.2) (.int .i64 j9)) (fun _ h_=>h_.1))) hb);replace b1:=A_ (blk_below (g:=d2) (o:=.cells #[.int .i64 b7,.int .i64 b6] 23 (0,0)) (bf2_ e6 e6 b1) hb);replace b3:=A_ (blk_below (g:=d0) (o:=.cells #[.int .i64 b4,.int .i64 b2] 23 (0,0)) (bf2_ h0 h0 b3) hb);replace e8:=A_ (blk_below (g:=e4) (o:=.cells #[.int .i64 h4,.int .i64 j9] 23 (0,0)) (by (with_reducible repeat (first | refine blk_drewN ?_ _ | refine blk_drew ?_ | refine blk_alloc ?_ _));refine blk_put (cs:=#[.int .i64 h4,.int .i64 0]) ?_ 1 _ rfl;(with_reducible repeat (first | refine blk_drewN ?_ _ | refine blk_drew ?_ | refine blk_alloc ?_ _));refine blk_put (cs:=#[.int .i64 0,.int .i64 0]) ?_ 0 _ rfl;(with_reducible repeat (first | refine blk_drewN ?_ _ | refine blk_drew ?_ | refine blk_alloc ?_ _));exact e8.out) hb);replace HB:=bB HB hb;(try clear hb)))
           go_roundg k4
           case measure=>have:=m0.out;have:=m2.out;have:=m3.out;have:=m1.out;omega
           case rel=>exact ⟨(e2),(wrap64 (d1 + 1)),(b7),(b6),rf_,rf_,H',⟨by have:=m0.out;have:=m2.out;have:=m3.out;have:=m1.out;omega⟩,⟨by (with_reducible repeat (first | apply Kd.R_alloc | apply Kd.R_drewN | apply Kd.R_drew));exact Kd.R_mono b8.out (fun _ hk=>hk.1.1)⟩,⟨kr_ b9⟩,⟨dr_ b1⟩,⟨bl HB⟩⟩
          subst W3
          rw [if_pos rfl] at H
          have H':=A_ H
          clear H
          have hnb92:=e9.out
          have hnc92:=d6.out
          have W4:wr.cell? ⟨d0,0,none⟩ = some (.int .i64 b4):=cz b3 0
          have W5:wr.cell? ⟨d0,1,none⟩ = some (.int .i64 b2):=cz b3 1
          have W6:=blk_frozen b3.out 0
          have W7:=blk_frozen b3.out 1
          go_wp2_with (first | ((with_reducible refine gate_callee (f:=34) rfl ?_);refine gL (some 101) Try.func34 #[.int .i64 b4,.int .i64 (wrap64 (b2 * e3))] ?_;(with_reducible refine (numnahref07_Reduced.calls k4 b4 (wrap64 (b2 * e3)) h4 j9 _ A80.out).mono ?_);rintro e w94 ⟨rfl,hb⟩;refine ⟨_,rfl,?_⟩;replace b8:=rB b8 hb;replace b9:=rB b9 hb;replace b1:=kB b1 hb;replace b3:=kB b3 hb;replace HB:=bB HB hb;(try clear hb)) | ((with_reducible refine gate_dst (N:=15) rfl ?_);refine bx 15 #[.int .i64 0,.int .i64 0] 23 ?_;intro e4 hg W8 hbox hb;have e8:=A_ hbox;have r0:=gw hg HB;have G1:=r0;have e6:=nl hg b1;have l6:=ng hg b1;have h0:=nl hg b3;have l7:=ng hg b3;replace b8:=A_ (Kd.R_below (Kd.R_elderB (rs b8) e4 (Nat.le_of_eq hg.symm)) hb);replace b9:=rB b9 hb;replace b1:=kB b1 hb;replace b3:=kB b3 hb;replace HB:=bB HB hb;clear hb hbox hg;have hnb96:=l6.out;have hnc96:=e6.out;have hnb97:=l7.out;have hnc97:=h0.out;have W9:W8.cell? ⟨e4,0,none⟩ = some (.int .i64 0):=cz e8 0;have X0:W8.cell? ⟨e4,1,none⟩ = some (.int .i64 0):=cz e8 1;have X1:=blk_frozen e8.out 0;have X2:=blk_frozen e8.out 1;have X3:W8.cell? ⟨d2,0,none⟩ = some (.int .i64 b7):=cz b1 0;have X4:W8.cell? ⟨d2,1,none⟩ = some (.int .i64 b6):=cz b1 1;have X5:=blk_frozen b1.out 0;have X6:=blk_frozen b1.out 1) | (go_at_call 30;(with_reducible refine (numnahref07_Less.calls h4 j9 b7 b6 true _ A90.out).mono ?_);rintro e D8 ⟨rfl,hb⟩;replace b8:=A_ (Kd.R_below (by (with_reducible repeat (first | apply Kd.R_alloc | apply Kd.R_drewN | apply Kd.R_drew));exact (Kd.R_mono (Kd.R_far (p:=⟨e4,1,none⟩) (Kd.R_far (p:=⟨e4,0,none⟩) (Kd.R_mono b8.out (fun k_ hk=>(⟨hk,hk.2⟩:_ ∧ k_ ≠ e4))) (fun _ hk=>hk.2) (.int .i64 h4)) (fun _ hk=>hk.2) (.int .i64 j9)) (fun _ h_=>h_.1))) hb);replace b9:=A_ (Kd.R_below (by (with_reducible repeat (first | apply Kd.R_alloc | apply Kd.R_drewN | apply Kd.R_drew));exact (Kd.R_mono (Kd.R_far (p:=⟨e4,1,none⟩) (Kd.R_far (p:=⟨e4,0,none⟩) (Kd.R_types b9.out e8.out (by decide)) (fun _ hk=>hk.2) (.int .i64 h4)) (fun _ hk=>hk.2) (.int .i64 j9)) (fun _ h_=>h_.1))) hb);replace b1:=A_ (blk_below (g:=d2) (o:=.cells #[.int .i64 b7,.int .i64 b6] 23 (0,0)) (bf2_ e6 e6 b1) hb);replace b3:=A_ (blk_below (g:=d0) (o:=.cells #[.int .i64 b4,.int .i64 b2] 23 (0,0)) (bf2_ h0 h0 b3) hb);replace e8:=A_ (blk_below (g:=e4) (o:=.cells #[.int .i64 h4,.int .i64 j9] 23 (0,0)) (by (with_reducible repeat (first | refine blk_drewN ?_ _ | refine blk_drew ?_ | refine blk_alloc ?_ _));refine blk_put (cs:=#[.int .i64 h4,.int .i64 0]) ?_ 1 _ rfl;(with_reducible repeat (first | refine blk_drewN ?_ _ | refine blk_drew ?_ | refine blk_alloc ?_ _));refine blk_put (cs:=#[.int .i64 0,.int .i64 0]) ?_ 0 _ rfl;(with_reducible repeat (first | refine blk_drewN ?_ _ | refine blk_drew ?_ | refine blk_alloc ?_ _));exact e8.out) hb);replace HB:=bB HB hb;(try clear hb);have Q0:D8.cell? ⟨e4,0,none⟩ = some (.int .i64 h4):=cz e8 0;have Q1:D8.cell? ⟨e4,1,none⟩ = some (.int .i64 j9):=cz e8 1;have Q2:=blk_frozen e8.out 0;have Q3:=blk_frozen e8.out 1;have Q4:D8.cell? ⟨d2,0,none⟩ = some (.int .i64 b7):=cz b1 0;have Q5:D8.cell? ⟨d2,1,none⟩ = some (.int .i64 b6):=cz b1 1;have Q6:=blk_frozen b1.out 0;have Q7:=blk_frozen b1.out 1))
          go_roundg k4
          case measure=>have:=m0.out;have:=m2.out;have:=m3.out;have:=m1.out;omega
          case rel=>exact ⟨(d1),(wrap64 (d1 + 1)),(h4),(j9),rf_,rf_,H',⟨by have:=m0.out;have:=m2.out;have:=m3.out;have:=m1.out;omega⟩,⟨by (with_reducible repeat (first | apply Kd.R_alloc | apply Kd.R_drewN | apply Kd.R_drew));exact Kd.R_mono (Kd.R_far (p:=⟨d2,1,none⟩) (Kd.R_far (p:=⟨d2,0,none⟩) (Kd.R_mono b8.out (fun k_ hk=>(⟨hk,hk.1.1⟩:_ ∧ k_ ≠ d2))) (fun _ hk=>hk.2) (.int .i64 h4)) (fun _ hk=>hk.2) (.int .i64 j9)) (fun _ hk=>hk.1.1.1)⟩,⟨by (with_reducible repeat (first | apply Kd.R_alloc | apply Kd.R_drewN | apply Kd.R_drew));exact Kd.R_mono (Kd.R_far (p:=⟨d2,1,none⟩) (Kd.R_far (p:=⟨d2,0,none⟩) (Kd.R_types b9.out b1.out (by decide)) (fun _ hk=>hk.2) (.int .i64 h4)) (fun _ hk=>hk.2) (.int .i64 j9)) (fun _ hk=>trivial)⟩,⟨by (with_reducible repeat (first | refine blk_drewN ?_ _ | refine blk_drew ?_ | refine blk_alloc ?_ _));refine blk_put (cs:=#[.int .i64 h4,.int .i64 b6]) ?_ 1 _ rfl;(with_reducible repeat (first | refine blk_drewN ?_ _ | refine blk_drew ?_ | refine blk_alloc ?_ _));refine blk_put (cs:=#[.int .i64 b7,.int .i64 b6]) ?_ 0 _ rfl;(with_reducible repeat (first | refine blk_drewN ?_ _ | refine blk_drew ?_ | refine blk_alloc ?_ _));exact b1.out⟩,⟨bl HB⟩⟩
         rw [if_pos K7] at H
         have O3:=decide_eq_true K7
         clear K7
         have J5:=A_ H
         clear H
         go_upto_region 17 with (fail)
         go_cut [66] (fun v66 wc=>∃ (kq:Nat) (q5:Bool),v66 = .bool q5 ∧ Aside0 (numnahref07_Fair.j4 kq l0 l1 e5 e7 h6 e2 d1 e3 b0 q5 b7 b6 b4 b2 = some r) ∧ Aside0 (kq ≤ k4) ∧ Aside0 (Kd.R k23 23 wc w.heap.size (fun k_=>k_ ≠ d2 ∧ k_ ≠ d0) x3 e5) ∧ Aside0 (Kd.R Kd.bool 4 wc w.heap.size (fun _=>True) x4 e7) ∧ Aside0 (wc.heap[d2]? = some (.cells #[.int .i64 b7,.int .i64 b6] 23 (0,0))) ∧ Aside0 (wc.heap[d0]? = some (.cells #[.int .i64 b4,.int .i64 b2] 23 (0,0))) ∧ Aside0 (Below w.heap.size w wc))
         case first =>
          have H:=J5.out
          clear J5
          replace H:=gd H
          obtain ⟨c30,H⟩:=H
          have G2:=decide_eq_true c30
          clear c30
          (first | rw [G2] | (simp only [i64_w,i32_w];rw [G2]) | skip)
          replace H:=Option.bind_eq_some_iff.mp H
          obtain ⟨C8,Q8,H⟩:=H
          replace H:(if C8 = true then (if b0 < (e7.length:Int) then (numnahref07_Fair.j4 k4 l0 l1 e5 e7 h6 e2 d1 e3 b0 (rdOf false e7 b0) b7 b6 b4 b2) else (none)) else (numnahref07_Fair.j4 k4 l0 l1 e5 e7 h6 e2 d1 e3 b0 false b7 b6 b4 b2)) = some r:=H
          have A31:=A_ Q8
          clear Q8
          by_cases X7:C8 = true
          case neg =>
           replace X7:=Bool.eq_false_iff.mpr X7
           subst X7
           rw [if_neg (show ¬ (false = true) by decide)] at H
           have H':=A_ H
           clear H
           have r6:0 ≤ (b0:Int):=oa_
           have r7:b0 < (l1.length:Int):=oa_
           obtain ⟨Q9,r8,r9,J6,m7,m8,m9,n0⟩:=at_T45 s4.out b0 r6 r7
           cases J6
           replace m7:=cT HB m7
           replace m8:=cT HB m8
           have q6:=A_ n0
           have q7:=A_ m9
           clear n0 m9
           replace r6:=eq_true r6
           replace r7:=eq_true r7
           go_wp2_with (first | ((with_reducible refine gate_callee (f:=77) rfl ?_);refine gL (some 60) Try.func77 #[.agg #[.int .i64 ((rd_T45 l1 b0).f0),.slice r8 ((rd_T45 l1 b0).f1).length r9],.int .i64 d1] ?_;(with_reducible refine (numnahref07_Has.calls k4 ((rd_T45 l1 b0).f0) _ _ ((rd_T45 l1 b0).f1) d1 false _ ?side1 ?side2 A31.out).mono ?_);(case side1=>exact cB q6 HB);(case side2=>exact q7.out);rintro e w36 ⟨rfl,hb⟩;refine ⟨_,rfl,?_⟩;replace b8:=rB b8 hb;replace b9:=rB b9 hb;replace b1:=kB b1 hb;replace b3:=kB b3 hb;replace HB:=bB HB hb;(try clear hb)))
           go_meet
           case rel=>exact ⟨_,(false),rf_,H',⟨by have:=m0.out;have:=m2.out;have:=m3.out;have:=m1.out;first | omega | exact Nat.le_refl _⟩,⟨kr_ b8⟩,⟨kr_ b9⟩,⟨dr_ b1⟩,⟨dr_ b3⟩,⟨bl HB⟩⟩
          subst X7
          rw [if_pos rfl] at H
          replace H:=gd H
          obtain ⟨c33,H⟩:=H
          have c33b0:=decide_eq_true c33
          clear c33
          have H':=A_ H
          clear H
          have r6:0 ≤ (b0:Int):=oa_
          have r7:b0 < (l1.length:Int):=oa_
          obtain ⟨Q9,r8,r9,J6,m7,m8,m9,n0⟩:=at_T45 s4.out b0 r6 r7
          cases J6
          replace m7:=cT HB m7
          replace m8:=cT HB m8
          have q6:=A_ n0
          have q7:=A_ m9
          clear n0 m9
          replace r6:=eq_true r6
          replace r7:=eq_true r7
          go_wp2_with (first | ((with_reducible refine gate_callee (f:=77) rfl ?_);refine gL (some 60) Try.func77 #[.agg #[.int .i64 ((rd_T45 l1 b0).f0),.slice r8 ((rd_T45 l1 b0).f1).length r9],.int .i64 d1] ?_;(with_reducible refine (numnahref07_Has.calls k4 ((rd_T45 l1 b0).f0) _ _ ((rd_T45 l1 b0).f1) d1 true _ ?side1 ?side2 A31.out).mono ?_);(case side1=>exact cB q6 HB);(case side2=>exact q7.out);rintro e w34 ⟨rfl,hb⟩;refine ⟨_,rfl,?_⟩;replace b8:=rB b8 hb;replace b9:=rB b9 hb;replace b1:=kB b1 hb;replace b3:=kB b3 hb;replace HB:=bB HB hb;(try clear hb);obtain ⟨Ao35,co35,eo35⟩:=Kd.R_slice b9.out;subst eo35;have J7:0 ≤ (b0:Int):=oa_;have J8:b0 < (e7.length:Int):=oa_;obtain ⟨ad849,e849,X8⟩:=Kd.at_bool (Kd.R_reads' b9.out).2.2 b0 J7 J8;cases e849;replace J7:=eq_true J7;replace J8:=eq_true J8))
          go_meet
          case rel=>exact ⟨_,(rdOf false e7 b0),rf_,H',⟨by have:=m0.out;have:=m2.out;have:=m3.out;have:=m1.out;first | omega | exact Nat.le_refl _⟩,⟨kr_ b8⟩,⟨kr_ b9⟩,⟨dr_ b1⟩,⟨dr_ b3⟩,⟨bl HB⟩⟩
         case rest =>
          clear J5
          obtain ⟨kq,q5,rfl,HA,n8,b8,b9,b1,b3,HB⟩:=hcut
          cases kq with
          | zero=>exact absurd HA.out (by simp [numnahref07_Fair.j4])
          | succ h5 =>
           have H:=HA.out
           clear HA
           simp only [numnahref07_Fair.j4] at H
           by_cases X9:q5 = true
           case neg =>
            replace X9:=Bool.eq_false_iff.mpr X9
            subst X9
            rw [if_neg (show ¬ (false = true) by decide)] at H
            replace H:=gd H
            obtain ⟨c67,H⟩:=H
            have c67b0:=decide_eq_true c67
            clear c67
            replace H:=gd H
            obtain ⟨c68,H⟩:=H
            have c68b0:=decide_eq_true c68
            clear c68
            replace H:=Option.bind_eq_some_iff.mp H
            obtain ⟨D1,R0,H⟩:=H
            replace H:(if D1 = true then (if b0 < (e7.length:Int) then (if rdOf false e7 b0 = true then (numnahref07_Fair.l3 h5 l0 l1 e5 e7 h6 e2 d1 e3 (wrap64 (b0 + 1)) b7 b6 b4 b2) else (numnahref07_Fair.l3 h5 l0 l1 e5 e7 h6 e2 d1 (wrap64 (e3 + ((rd_T45 l1 b0).f0))) (wrap64 (b0 + 1)) b7 b6 b4 b2)) else (none)) else (numnahref07_Fair.l3 h5 l0 l1 e5 e7 h6 e2 d1 e3 (wrap64 (b0 + 1)) b7 b6 b4 b2)) = some r:=H
            have A69:=A_ R0
            clear R0
            by_cases Y0:D1 = true
            case neg =>
             replace Y0:=Bool.eq_false_iff.mpr Y0
             subst Y0
             rw [if_neg (show ¬ (false = true) by decide)] at H
             have H':=A_ H
             clear H
             have p0:0 ≤ (b0:Int):=oa_
             have p1:b0 < (l1.length:Int):=oa_
             obtain ⟨C2,p2,p3,C3,i4,i5,i6,i7⟩:=at_T45 s4.out b0 p0 p1
             cases C3
             replace i4:=cT HB i4
             replace i5:=cT HB i5
             have n1:=A_ i7
             have n2:=A_ i6
             clear i7 i6
             replace p0:=eq_true p0
             replace p1:=eq_true p1
             go_wp2_with (first | ((with_reducible refine gate_callee (f:=77) rfl ?_);refine gL (some 78) Try.func77 #[.agg #[.int .i64 ((rd_T45 l1 b0).f0),.slice p2 ((rd_T45 l1 b0).f1).length p3],.int .i64 d1] ?_;(with_reducible refine (numnahref07_Has.calls h5 ((rd_T45 l1 b0).f0) _ _ ((rd_T45 l1 b0).f1) d1 false _ ?side1 ?side2 A69.out).mono ?_);(case side1=>exact cB n1 HB);(case side2=>exact n2.out);rintro e w78 ⟨rfl,hb⟩;refine ⟨_,rfl,?_⟩;replace b8:=rB b8 hb;replace b9:=rB b9 hb;replace b1:=kB b1 hb;replace b3:=kB b3 hb;replace HB:=bB HB hb;(try clear hb)))
             go_roundg h5
             case measure=>have:=m0.out;have:=m2.out;have:=m3.out;have:=m1.out;have:=n8.out;omega
             case rel=>exact ⟨(e3),(wrap64 (b0 + 1)),(b4),(b2),rf_,rf_,H',⟨by have:=m0.out;have:=m2.out;have:=m3.out;have:=m1.out;have:=n8.out;omega⟩,⟨kr_ b8⟩,⟨kr_ b9⟩,⟨dr_ b1⟩,⟨dr_ b3⟩,⟨bl HB⟩⟩
            subst Y0
            rw [if_pos rfl] at H
            replace H:=gd H
            obtain ⟨c71,H⟩:=H
            have c71b0:=decide_eq_true c71
            clear c71
            obtain ⟨R1,C4⟩:∃ b_:Bool,b_ = (rdOf false e7 b0):=⟨_,rfl⟩
            replace H:(if R1 = true then (numnahref07_Fair.l3 h5 l0 l1 e5 e7 h6 e2 d1 e3 (wrap64 (b0 + 1)) b7 b6 b4 b2) else (numnahref07_Fair.l3 h5 l0 l1 e5 e7 h6 e2 d1 (wrap64 (e3 + ((rd_T45 l1 b0).f0))) (wrap64 (b0 + 1)) b7 b6 b4 b2)) = some r:=by rw [← C4] at H;exact H
            have G3:=A_ C4
            clear C4
            by_cases Y1:R1 = true
            ·subst Y1
             rw [if_pos rfl] at H
             have H':=A_ H
             clear H
             have p0:0 ≤ (b0:Int):=oa_
             have p1:b0 < (l1.length:Int):=oa_
             obtain ⟨C2,p2,p3,C3,i4,i5,i6,i7⟩:=at_T45 s4.out b0 p0 p1
             cases C3
             replace i4:=cT HB i4
             replace i5:=cT HB i5
             have n1:=A_ i7
             have n2:=A_ i6
             clear i7 i6
             replace p0:=eq_true p0
             replace p1:=eq_true p1
             go_wp2_with (first | ((with_reducible refine gate_callee (f:=77) rfl ?_);refine gL (some 78) Try.func77 #[.agg #[.int .i64 ((rd_T45 l1 b0).f0),.slice p2 ((rd_T45 l1 b0).f1).length p3],.int .i64 d1] ?_;(with_reducible refine (numnahref07_Has.calls h5 ((rd_T45 l1 b0).f0) _ _ ((rd_T45 l1 b0).f1) d1 true _ ?side1 ?side2 A69.out).mono ?_);(case side1=>exact cB n1 HB);(case side2=>exact n2.out);rintro e w74 ⟨rfl,hb⟩;refine ⟨_,rfl,?_⟩;replace b8:=rB b8 hb;replace b9:=rB b9 hb;replace b1:=kB b1 hb;replace b3:=kB b3 hb;replace HB:=bB HB hb;(try clear hb);obtain ⟨Ao75,co75,eo75⟩:=Kd.R_slice b9.out;subst eo75;have s0:0 ≤ (b0:Int):=oa_;have s1:b0 < (e7.length:Int):=oa_;obtain ⟨R2,J9,q8⟩:=Kd.at_bool (Kd.R_reads' b9.out).2.2 b0 s0 s1;(try rw [← G3.out] at q8);cases J9;replace s0:=eq_true s0;replace s1:=eq_true s1))
             go_roundg h5
             case measure=>have:=m0.out;have:=m2.out;have:=m3.out;have:=m1.out;have:=n8.out;omega
             case rel=>exact ⟨(e3),(wrap64 (b0 + 1)),(b4),(b2),rf_,rf_,H',⟨by have:=m0.out;have:=m2.out;have:=m3.out;have:=m1.out;have:=n8.out;omega⟩,⟨kr_ b8⟩,⟨kr_ b9⟩,⟨dr_ b1⟩,⟨dr_ b3⟩,⟨bl HB⟩⟩
            replace Y1:=Bool.eq_false_iff.mpr Y1
            subst Y1
            rw [if_neg (show ¬ (false = true) by decide)] at H
            have H':=A_ H
            clear H
            have p0:0 ≤ (b0:Int):=oa_
            have p1:b0 < (l1.length:Int):=oa_
            obtain ⟨C2,p2,p3,C3,i4,i5,i6,i7⟩:=at_T45 s4.out b0 p0 p1
            cases C3
            replace i4:=cT HB i4
            replace i5:=cT HB i5
            have n1:=A_ i7
            have n2:=A_ i6
            clear i7 i6
            replace p0:=eq_true p0
            replace p1:=eq_true p1
            go_wp2_with (first | ((with_reducible refine gate_callee (f:=77) rfl ?_);refine gL (some 78) Try.func77 #[.agg #[.int .i64 ((rd_T45 l1 b0).f0),.slice p2 ((rd_T45 l1 b0).f1).length p3],.int .i64 d1] ?_;(with_reducible refine (numnahref07_Has.calls h5 ((rd_T45 l1 b0).f0) _ _ ((rd_T45 l1 b0).f1) d1 true _ ?side1 ?side2 A69.out).mono ?_);(case side1=>exact cB n1 HB);(case side2=>exact n2.out);rintro e w76 ⟨rfl,hb⟩;refine ⟨_,rfl,?_⟩;replace b8:=rB b8 hb;replace b9:=rB b9 hb;replace b1:=kB b1 hb;replace b3:=kB b3 hb;replace HB:=bB HB hb;(try clear hb);obtain ⟨Ao77,co77,eo77⟩:=Kd.R_slice b9.out;subst eo77;have s0:0 ≤ (b0:Int):=oa_;have s1:b0 < (e7.length:Int):=oa_;obtain ⟨R2,J9,q8⟩:=Kd.at_bool (Kd.R_reads' b9.out).2.2 b0 s0 s1;(try rw [← G3.out] at q8);cases J9;replace s0:=eq_true s0;replace s1:=eq_true s1;have K0:0 ≤ (b0:Int):=oa_;have K1:b0 < (l1.length:Int):=oa_;obtain ⟨R3,A860_1,c860_1,e860,t2,t3,t4,t5⟩:=at_T45 s4.out b0 K0 K1;obtain rfl:C2 = R3:=(by injection e860);replace t2:=cT HB t2;replace t3:=cT HB t3;have Y2:=A_ t5;have Y3:=A_ t4;clear t5 t4;replace K0:=eq_true K0;replace K1:=eq_true K1))
            go_roundg h5
            case measure=>have:=m0.out;have:=m2.out;have:=m3.out;have:=m1.out;have:=n8.out;omega
            case rel=>exact ⟨(wrap64 (e3 + ((rd_T45 l1 b0).f0))),(wrap64 (b0 + 1)),(b4),(b2),rf_,rf_,H',⟨by have:=m0.out;have:=m2.out;have:=m3.out;have:=m1.out;have:=n8.out;omega⟩,⟨kr_ b8⟩,⟨kr_ b9⟩,⟨dr_ b1⟩,⟨dr_ b3⟩,⟨bl HB⟩⟩
           subst X9
           rw [if_pos rfl] at H
           replace H:=gd H
           obtain ⟨c38,H⟩:=H
           have c38b0:=decide_eq_true c38
           clear c38
           replace H:=gd H
           obtain ⟨c39,H⟩:=H
           have c39b0:=decide_eq_true c39
           clear c39
           replace H:=Option.bind_eq_some_iff.mp H
           obtain ⟨⟨h1,h3⟩,A400,H⟩:=H
           dsimp only at H
           have A40:=A_ A400
           clear A400
           replace H:=gd H
           obtain ⟨c41,H⟩:=H
           have c41b0:=decide_eq_true c41
           clear c41
           replace H:=Option.bind_eq_some_iff.mp H
           obtain ⟨D0,R4,H⟩:=H
           replace H:(if D0 = true then (if b0 < (e7.length:Int) then (if rdOf false e7 b0 = true then (numnahref07_Fair.l3 h5 l0 l1 e5 e7 h6 e2 d1 e3 (wrap64 (b0 + 1)) b7 b6 h1 h3) else (numnahref07_Fair.l3 h5 l0 l1 e5 e7 h6 e2 d1 (wrap64 (e3 + ((rd_T45 l1 b0).f0))) (wrap64 (b0 + 1)) b7 b6 h1 h3)) else (none)) else (numnahref07_Fair.l3 h5 l0 l1 e5 e7 h6 e2 d1 e3 (wrap64 (b0 + 1)) b7 b6 h1 h3)) = some r:=H
           have A42:=A_ R4
           clear R4
           by_cases Y4:D0 = true
           case neg =>
            replace Y4:=Bool.eq_false_iff.mpr Y4
            subst Y4
            rw [if_neg (show ¬ (false = true) by decide)] at H
            have H':=A_ H
            clear H
            try go_wp2
            replace b8:=rD b8
            replace b9:=rD b9
            replace b1:=kD b1
            replace b3:=kD b3
            replace HB:=bD HB
            obtain ⟨Ao62,co62,R5⟩:=Kd.R_slice b8.out
            (first | subst R5 | (injection R5 with G4 R6 G5;have R7:=G4.symm;have R8:=G5.symm;clear G4 R6 G5;subst R7;subst R8))
            have p4:0 ≤ (b0:Int):=oa_
            have p5:b0 < (e5.length:Int):=oa_
            obtain ⟨l8,C5,i8,i9⟩:=at_T23 (Kd.R_reads' b8.out).2.2 b0 p4 p5
            cases C5
            replace p4:=eq_true p4
            replace p5:=eq_true p5
            refine start_ (n:=7) (S:=fun w'=>w'.cell? ⟨d0,0,none⟩ = some (.int .i64 b4) ∧ w'.cell? ⟨d0,1,none⟩ = some (.int .i64 b2) ∧ w'.cell? (l8.add ((b0).toNat * 2)) = some (.int .i64 ((rd_T23 e5 b0).f0)) ∧ w'.cell? ⟨(l8.add ((b0).toNat * 2)).block,(l8.add ((b0).toNat * 2)).off + 1,none⟩ = some (.int .i64 ((rd_T23 e5 b0).f1))) (ds:=[6]) (ba 7 0) (by kernel_rfl) rfl rfl ⟨cz b3 0,cz b3 1,i8,i9⟩ (fun hHeld=>?_)
            generalize wc.drew = w61 at b8 b9 b1 b3 HB i8 i9 hHeld ⊢
            refine pr 1 68 2 ?_
            refine pr 2 69 6 ?_
            refine pr 3 70 14 ?_
            refine tr 0 67 15 hHeld ?_
            refine tr 4 71 31 hHeld ?_
            refine os 5 72 63 (fun K hK=>?_)
            refine gq Try.func31 #[.agg #[.int .i64 b4,.int .i64 b2],.agg #[.int .i64 ((rd_T23 e5 b0).f0),.int .i64 ((rd_T23 e5 b0).f1)]] ?_
            with_reducible refine (numnahref07_Sub.calls h5 b4 b2 ((rd_T23 e5 b0).f0) ((rd_T23 e5 b0).f1) h1 h3 _ A40.out).mono ?_
            rintro e w63 ⟨rfl,hb⟩
            have R9:=cU hb (hHeld.2.2.1)
            have S0:=cU hb (hHeld.2.2.2)
            refine ⟨_,rfl,?_⟩
            replace b8:=rB b8 hb
            replace b9:=rB b9 hb
            replace b1:=kB b1 hb
            replace b3:=kB b3 hb
            replace HB:=bB HB hb
            (try clear hb)
            refine hz hK (fun hHeld=>?_)
            clear hK K
            refine nq 72 ?_
            refine last_ (i:=6) (N:=none) (ba 7 127) rfl rfl (by kernel_rfl) (by decide) (fun K hK=>?_)
            have hs64:w63.cell? ⟨d0,0,none⟩ = some (.int .i64 b4):=cz b3 0
            have hfs64:=blk_frozen b3.out 0
            have Y5:=d6.out
            have Y6:=e9.out
            have hs65:w63.cell? ⟨d0,1,none⟩ = some (.int .i64 b2):=cz b3 1
            have hfs65:=blk_frozen b3.out 1
            have Y7:=d6.out
            have Y8:=e9.out
            refine skip_ (w1:=?_) (by rfl) rfl ?_ ?_
            rotate_left
            ·go_simp
             rfl
            refine hK.out _ _ ?_
            clear hK K
            refine done_ (by kernel_rfl) ?_
            have p6:0 ≤ (b0:Int):=oa_
            have p7:b0 < (l1.length:Int):=oa_
            obtain ⟨n3,p8,p9,C6,d3,e1,j5,j7⟩:=at_T45 s4.out b0 p6 p7
            cases C6
            have d7:n3.block ≠ d0:=Nat.ne_of_lt (Nat.lt_of_lt_of_le (by have:=World.block_lt_of_cell? _ _ d3;first | rwa [add_block] at this | exact this) o9.out)
            have d8:n3.block ≠ d0:=Nat.ne_of_lt (Nat.lt_of_lt_of_le (by have:=World.block_lt_of_cell? _ _ d3;first | rwa [add_block] at this | exact this) o9.out)
            replace d3:=cT HB d3
            replace e1:=cT HB e1
            have n4:=A_ j7
            have n5:=A_ j5
            clear j7 j5
            replace d3:=(cell_far (p:=⟨d0,0,none⟩) (by first | (rw [add_block];exact d7) | (show (Addr.add _ _).block ≠ _;rw [add_block];exact d7) | exact d7) (.int .i64 h1)).trans d3
            replace e1:=(cell_far (p:=⟨d0,0,none⟩) (by first | (rw [add_block];exact d7) | (show (Addr.add _ _).block ≠ _;rw [add_block];exact d7) | exact d7) (.int .i64 h1)).trans e1
            replace d3:=(cell_far (p:=⟨d0,1,none⟩) (by first | (rw [add_block];exact d8) | (show (Addr.add _ _).block ≠ _;rw [add_block];exact d8) | exact d8) (.int .i64 h3)).trans d3
            replace e1:=(cell_far (p:=⟨d0,1,none⟩) (by first | (rw [add_block];exact d8) | (show (Addr.add _ _).block ≠ _;rw [add_block];exact d8) | exact d8) (.int .i64 h3)).trans e1
            clear d7 d8
            replace p6:=eq_true p6
            replace p7:=eq_true p7
            try go_wp2_with (first | ((with_reducible refine gate_callee (f:=77) rfl ?_);refine gL (some 78) Try.func77 #[.agg #[.int .i64 ((rd_T45 l1 b0).f0),.slice p8 ((rd_T45 l1 b0).f1).length p9],.int .i64 d1] ?_;(with_reducible refine (numnahref07_Has.calls h5 ((rd_T45 l1 b0).f0) _ _ ((rd_T45 l1 b0).f1) d1 false _ ?side1 ?side2 A42.out).mono ?_);(case side1=>exact Kd.C_below n4.out (bl HB));(case side2=>exact n5.out);rintro e w66 ⟨rfl,hb⟩;refine ⟨_,rfl,?_⟩;replace b8:=A_ (Kd.R_below (by (with_reducible repeat (first | apply Kd.R_alloc | apply Kd.R_drewN | apply Kd.R_drew));exact (Kd.R_mono (Kd.R_far (p:=⟨d0,1,none⟩) (Kd.R_far (p:=⟨d0,0,none⟩) (Kd.R_mono b8.out (fun k_ hk=>(⟨hk,hk.2⟩:_ ∧ k_ ≠ d0))) (fun _ hk=>hk.2) (.int .i64 h1)) (fun _ hk=>hk.2) (.int .i64 h3)) (fun _ h_=>h_.1))) hb);replace b9:=A_ (Kd.R_below (by (with_reducible repeat (first | apply Kd.R_alloc | apply Kd.R_drewN | apply Kd.R_drew));exact (Kd.R_mono (Kd.R_far (p:=⟨d0,1,none⟩) (Kd.R_far (p:=⟨d0,0,none⟩) (Kd.R_types b9.out b3.out (by decide)) (fun _ hk=>hk.2) (.int .i64 h1)) (fun _ hk=>hk.2) (.int .i64 h3)) (fun _ h_=>h_.1))) hb);replace b1:=A_ (blk_below (g:=d2) (o:=.cells #[.int .i64 b7,.int .i64 b6] 23 (0,0)) (bf2_ d6 d6 b1) hb);replace b3:=A_ (blk_below (g:=d0) (o:=.cells #[.int .i64 h1,.int .i64 h3] 23 (0,0)) (by (with_reducible repeat (first | refine blk_drewN ?_ _ | refine blk_drew ?_ | refine blk_alloc ?_ _));refine blk_put (cs:=#[.int .i64 h1,.int .i64 b2]) ?_ 1 _ rfl;(with_reducible repeat (first | refine blk_drewN ?_ _ | refine blk_drew ?_ | refine blk_alloc ?_ _));refine blk_put (cs:=#[.int .i64 b4,.int .i64 b2]) ?_ 0 _ rfl;(with_reducible repeat (first | refine blk_drewN ?_ _ | refine blk_drew ?_ | refine blk_alloc ?_ _));exact b3.out) hb);replace HB:=bB HB hb;(try clear hb)))
            go_roundg h5
            case measure=>have:=m0.out;have:=m2.out;have:=m3.out;have:=m1.out;have:=n8.out;omega
            case rel=>exact ⟨(e3),(wrap64 (b0 + 1)),(h1),(h3),rf_,rf_,H',⟨by have:=m0.out;have:=m2.out;have:=m3.out;have:=m1.out;have:=n8.out;omega⟩,⟨kr_ b8⟩,⟨kr_ b9⟩,⟨dr_ b1⟩,⟨dr_ b3⟩,⟨bl HB⟩⟩
           subst Y4
           rw [if_pos rfl] at H
           replace H:=gd H
           obtain ⟨c44,H⟩:=H
           have c44b0:=decide_eq_true c44
           clear c44
           obtain ⟨S1,C7⟩:∃ b_:Bool,b_ = (rdOf false e7 b0):=⟨_,rfl⟩
           replace H:(if S1 = true then (numnahref07_Fair.l3 h5 l0 l1 e5 e7 h6 e2 d1 e3 (wrap64 (b0 + 1)) b7 b6 h1 h3) else (numnahref07_Fair.l3 h5 l0 l1 e5 e7 h6 e2 d1 (wrap64 (e3 + ((rd_T45 l1 b0).f0))) (wrap64 (b0 + 1)) b7 b6 h1 h3)) = some r:=by rw [← C7] at H;exact H
           have G6:=A_ C7
           clear C7
           by_cases Y9:S1 = true
           ·subst Y9
            rw [if_pos rfl] at H
            have H':=A_ H
            clear H
            try go_wp2
            replace b8:=rD b8
            replace b9:=rD b9
            replace b1:=kD b1
            replace b3:=kD b3
            replace HB:=bD HB
            obtain ⟨Ao48,co48,S2⟩:=Kd.R_slice b8.out
            (first | subst S2 | (injection S2 with G4 R6 G5;have R7:=G4.symm;have R8:=G5.symm;clear G4 R6 G5;subst R7;subst R8))
            have p4:0 ≤ (b0:Int):=oa_
            have p5:b0 < (e5.length:Int):=oa_
            obtain ⟨l8,C5,i8,i9⟩:=at_T23 (Kd.R_reads' b8.out).2.2 b0 p4 p5
            cases C5
            replace p4:=eq_true p4
            replace p5:=eq_true p5
            refine start_ (n:=7) (S:=fun w'=>w'.cell? ⟨d0,0,none⟩ = some (.int .i64 b4) ∧ w'.cell? ⟨d0,1,none⟩ = some (.int .i64 b2) ∧ w'.cell? (l8.add ((b0).toNat * 2)) = some (.int .i64 ((rd_T23 e5 b0).f0)) ∧ w'.cell? ⟨(l8.add ((b0).toNat * 2)).block,(l8.add ((b0).toNat * 2)).off + 1,none⟩ = some (.int .i64 ((rd_T23 e5 b0).f1))) (ds:=[6]) (ba 7 0) (by kernel_rfl) rfl rfl ⟨cz b3 0,cz b3 1,i8,i9⟩ (fun hHeld=>?_)
            generalize wc.drew = w47 at b8 b9 b1 b3 HB i8 i9 hHeld ⊢
            refine pr 1 68 2 ?_
            refine pr 2 69 6 ?_
            refine pr 3 70 14 ?_
            refine tr 0 67 15 hHeld ?_
            refine tr 4 71 31 hHeld ?_
            refine os 5 72 63 (fun K hK=>?_)
            refine gq Try.func31 #[.agg #[.int .i64 b4,.int .i64 b2],.agg #[.int .i64 ((rd_T23 e5 b0).f0),.int .i64 ((rd_T23 e5 b0).f1)]] ?_
            with_reducible refine (numnahref07_Sub.calls h5 b4 b2 ((rd_T23 e5 b0).f0) ((rd_T23 e5 b0).f1) h1 h3 _ A40.out).mono ?_
            rintro e w49 ⟨rfl,hb⟩
            have R9:=cU hb (hHeld.2.2.1)
            have S0:=cU hb (hHeld.2.2.2)
            refine ⟨_,rfl,?_⟩
            replace b8:=rB b8 hb
            replace b9:=rB b9 hb
            replace b1:=kB b1 hb
            replace b3:=kB b3 hb
            replace HB:=bB HB hb
            (try clear hb)
            refine hz hK (fun hHeld=>?_)
            clear hK K
            refine nq 72 ?_
            refine last_ (i:=6) (N:=none) (ba 7 127) rfl rfl (by kernel_rfl) (by decide) (fun K hK=>?_)
            have hs50:w49.cell? ⟨d0,0,none⟩ = some (.int .i64 b4):=cz b3 0
            have hfs50:=blk_frozen b3.out 0
            have Z0:=d6.out
            have Z1:=e9.out
            have hs51:w49.cell? ⟨d0,1,none⟩ = some (.int .i64 b2):=cz b3 1
            have hfs51:=blk_frozen b3.out 1
            have Z2:=d6.out
            have Z3:=e9.out
            refine skip_ (w1:=?_) (by rfl) rfl ?_ ?_
            rotate_left
            ·go_simp
             rfl
            refine hK.out _ _ ?_
            clear hK K
            refine done_ (by kernel_rfl) ?_
            have p6:0 ≤ (b0:Int):=oa_
            have p7:b0 < (l1.length:Int):=oa_
            obtain ⟨n3,p8,p9,C6,d3,e1,j5,j7⟩:=at_T45 s4.out b0 p6 p7
            cases C6
            have d7:n3.block ≠ d0:=Nat.ne_of_lt (Nat.lt_of_lt_of_le (by have:=World.block_lt_of_cell? _ _ d3;first | rwa [add_block] at this | exact this) o9.out)
            have d8:n3.block ≠ d0:=Nat.ne_of_lt (Nat.lt_of_lt_of_le (by have:=World.block_lt_of_cell? _ _ d3;first | rwa [add_block] at this | exact this) o9.out)
            replace d3:=cT HB d3
            replace e1:=cT HB e1
            have n4:=A_ j7
            have n5:=A_ j5
            clear j7 j5
            replace d3:=(cell_far (p:=⟨d0,0,none⟩) (by first | (rw [add_block];exact d7) | (show (Addr.add _ _).block ≠ _;rw [add_block];exact d7) | exact d7) (.int .i64 h1)).trans d3
            replace e1:=(cell_far (p:=⟨d0,0,none⟩) (by first | (rw [add_block];exact d7) | (show (Addr.add _ _).block ≠ _;rw [add_block];exact d7) | exact d7) (.int .i64 h1)).trans e1
            replace d3:=(cell_far (p:=⟨d0,1,none⟩) (by first | (rw [add_block];exact d8) | (show (Addr.add _ _).block ≠ _;rw [add_block];exact d8) | exact d8) (.int .i64 h3)).trans d3
            replace e1:=(cell_far (p:=⟨d0,1,none⟩) (by first | (rw [add_block];exact d8) | (show (Addr.add _ _).block ≠ _;rw [add_block];exact d8) | exact d8) (.int .i64 h3)).trans e1
            clear d7 d8
            replace p6:=eq_true p6
            replace p7:=eq_true p7
            try go_wp2_with (first | ((with_reducible refine gate_callee (f:=77) rfl ?_);refine gL (some 78) Try.func77 #[.agg #[.int .i64 ((rd_T45 l1 b0).f0),.slice p8 ((rd_T45 l1 b0).f1).length p9],.int .i64 d1] ?_;(with_reducible refine (numnahref07_Has.calls h5 ((rd_T45 l1 b0).f0) _ _ ((rd_T45 l1 b0).f1) d1 true _ ?side1 ?side2 A42.out).mono ?_);(case side1=>exact Kd.C_below n4.out (bl HB));(case side2=>exact n5.out);rintro e w52 ⟨rfl,hb⟩;refine ⟨_,rfl,?_⟩;replace b8:=A_ (Kd.R_below (by (with_reducible repeat (first | apply Kd.R_alloc | apply Kd.R_drewN | apply Kd.R_drew));exact (Kd.R_mono (Kd.R_far (p:=⟨d0,1,none⟩) (Kd.R_far (p:=⟨d0,0,none⟩) (Kd.R_mono b8.out (fun k_ hk=>(⟨hk,hk.2⟩:_ ∧ k_ ≠ d0))) (fun _ hk=>hk.2) (.int .i64 h1)) (fun _ hk=>hk.2) (.int .i64 h3)) (fun _ h_=>h_.1))) hb);replace b9:=A_ (Kd.R_below (by (with_reducible repeat (first | apply Kd.R_alloc | apply Kd.R_drewN | apply Kd.R_drew));exact (Kd.R_mono (Kd.R_far (p:=⟨d0,1,none⟩) (Kd.R_far (p:=⟨d0,0,none⟩) (Kd.R_types b9.out b3.out (by decide)) (fun _ hk=>hk.2) (.int .i64 h1)) (fun _ hk=>hk.2) (.int .i64 h3)) (fun _ h_=>h_.1))) hb);replace b1:=A_ (blk_below (g:=d2) (o:=.cells #[.int .i64 b7,.int .i64 b6] 23 (0,0)) (bf2_ d6 d6 b1) hb);replace b3:=A_ (blk_below (g:=d0) (o:=.cells #[.int .i64 h1,.int .i64 h3] 23 (0,0)) (by (with_reducible repeat (first | refine blk_drewN ?_ _ | refine blk_drew ?_ | refine blk_alloc ?_ _));refine blk_put (cs:=#[.int .i64 h1,.int .i64 b2]) ?_ 1 _ rfl;(with_reducible repeat (first | refine blk_drewN ?_ _ | refine blk_drew ?_ | refine blk_alloc ?_ _));refine blk_put (cs:=#[.int .i64 b4,.int .i64 b2]) ?_ 0 _ rfl;(with_reducible repeat (first | refine blk_drewN ?_ _ | refine blk_drew ?_ | refine blk_alloc ?_ _));exact b3.out) hb);replace HB:=bB HB hb;(try clear hb);obtain ⟨Ao53,co53,eo53⟩:=Kd.R_slice b9.out;subst eo53;have s2:0 ≤ (b0:Int):=oa_;have s3:b0 < (e7.length:Int):=oa_;obtain ⟨S3,K2,q9⟩:=Kd.at_bool (Kd.R_reads' b9.out).2.2 b0 s2 s3;(try rw [← G6.out] at q9);cases K2;replace s2:=eq_true s2;replace s3:=eq_true s3))
            go_roundg h5
            case measure=>have:=m0.out;have:=m2.out;have:=m3.out;have:=m1.out;have:=n8.out;omega
            case rel=>exact ⟨(e3),(wrap64 (b0 + 1)),(h1),(h3),rf_,rf_,H',⟨by have:=m0.out;have:=m2.out;have:=m3.out;have:=m1.out;have:=n8.out;omega⟩,⟨kr_ b8⟩,⟨kr_ b9⟩,⟨dr_ b1⟩,⟨dr_ b3⟩,⟨bl HB⟩⟩
           replace Y9:=Bool.eq_false_iff.mpr Y9
           subst Y9
           rw [if_neg (show ¬ (false = true) by decide)] at H
           have H':=A_ H
           clear H
           try go_wp2
           replace b8:=rD b8
           replace b9:=rD b9
           replace b1:=kD b1
           replace b3:=kD b3
           replace HB:=bD HB
           obtain ⟨Ao55,co55,S4⟩:=Kd.R_slice b8.out
           (first | subst S4 | (injection S4 with G4 R6 G5;have R7:=G4.symm;have R8:=G5.symm;clear G4 R6 G5;subst R7;subst R8))
           have p4:0 ≤ (b0:Int):=oa_
           have p5:b0 < (e5.length:Int):=oa_
           obtain ⟨l8,C5,i8,i9⟩:=at_T23 (Kd.R_reads' b8.out).2.2 b0 p4 p5
           cases C5
           replace p4:=eq_true p4
           replace p5:=eq_true p5
           refine start_ (n:=7) (S:=fun w'=>w'.cell? ⟨d0,0,none⟩ = some (.int .i64 b4) ∧ w'.cell? ⟨d0,1,none⟩ = some (.int .i64 b2) ∧ w'.cell? (l8.add ((b0).toNat * 2)) = some (.int .i64 ((rd_T23 e5 b0).f0)) ∧ w'.cell? ⟨(l8.add ((b0).toNat * 2)).block,(l8.add ((b0).toNat * 2)).off + 1,none⟩ = some (.int .i64 ((rd_T23 e5 b0).f1))) (ds:=[6]) (ba 7 0) (by kernel_rfl) rfl rfl ⟨cz b3 0,cz b3 1,i8,i9⟩ (fun hHeld=>?_)
           generalize wc.drew = w54 at b8 b9 b1 b3 HB i8 i9 hHeld ⊢
           refine pr 1 68 2 ?_
           refine pr 2 69 6 ?_
           refine pr 3 70 14 ?_
           refine tr 0 67 15 hHeld ?_
           refine tr 4 71 31 hHeld ?_
           refine os 5 72 63 (fun K hK=>?_)
           refine gq Try.func31 #[.agg #[.int .i64 b4,.int .i64 b2],.agg #[.int .i64 ((rd_T23 e5 b0).f0),.int .i64 ((rd_T23 e5 b0).f1)]] ?_
           with_reducible refine (numnahref07_Sub.calls h5 b4 b2 ((rd_T23 e5 b0).f0) ((rd_T23 e5 b0).f1) h1 h3 _ A40.out).mono ?_
           rintro e w56 ⟨rfl,hb⟩
           have R9:=cU hb (hHeld.2.2.1)
           have S0:=cU hb (hHeld.2.2.2)
           refine ⟨_,rfl,?_⟩
           replace b8:=rB b8 hb
           replace b9:=rB b9 hb
           replace b1:=kB b1 hb
           replace b3:=kB b3 hb
           replace HB:=bB HB hb
           (try clear hb)
           refine hz hK (fun hHeld=>?_)
           clear hK K
           refine nq 72 ?_
           refine last_ (i:=6) (N:=none) (ba 7 127) rfl rfl (by kernel_rfl) (by decide) (fun K hK=>?_)
           have hs57:w56.cell? ⟨d0,0,none⟩ = some (.int .i64 b4):=cz b3 0
           have hfs57:=blk_frozen b3.out 0
           have Z4:=d6.out
           have Z5:=e9.out
           have hs58:w56.cell? ⟨d0,1,none⟩ = some (.int .i64 b2):=cz b3 1
           have hfs58:=blk_frozen b3.out 1
           have Z6:=d6.out
           have Z7:=e9.out
           refine skip_ (w1:=?_) (by rfl) rfl ?_ ?_
           rotate_left
           ·go_simp
            rfl
           refine hK.out _ _ ?_
           clear hK K
           refine done_ (by kernel_rfl) ?_
           have p6:0 ≤ (b0:Int):=oa_
           have p7:b0 < (l1.length:Int):=oa_
           obtain ⟨n3,p8,p9,C6,d3,e1,j5,j7⟩:=at_T45 s4.out b0 p6 p7
           cases C6
           have d7:n3.block ≠ d0:=Nat.ne_of_lt (Nat.lt_of_lt_of_le (by have:=World.block_lt_of_cell? _ _ d3;first | rwa [add_block] at this | exact this) o9.out)
           have d8:n3.block ≠ d0:=Nat.ne_of_lt (Nat.lt_of_lt_of_le (by have:=World.block_lt_of_cell? _ _ d3;first | rwa [add_block] at this | exact this) o9.out)
           replace d3:=cT HB d3
           replace e1:=cT HB e1
           have n4:=A_ j7
           have n5:=A_ j5
           clear j7 j5
           replace d3:=(cell_far (p:=⟨d0,0,none⟩) (by first | (rw [add_block];exact d7) | (show (Addr.add _ _).block ≠ _;rw [add_block];exact d7) | exact d7) (.int .i64 h1)).trans d3
           replace e1:=(cell_far (p:=⟨d0,0,none⟩) (by first | (rw [add_block];exact d7) | (show (Addr.add _ _).block ≠ _;rw [add_block];exact d7) | exact d7) (.int .i64 h1)).trans e1
           replace d3:=(cell_far (p:=⟨d0,1,none⟩) (by first | (rw [add_block];exact d8) | (show (Addr.add _ _).block ≠ _;rw [add_block];exact d8) | exact d8) (.int .i64 h3)).trans d3
           replace e1:=(cell_far (p:=⟨d0,1,none⟩) (by first | (rw [add_block];exact d8) | (show (Addr.add _ _).block ≠ _;rw [add_block];exact d8) | exact d8) (.int .i64 h3)).trans e1
           clear d7 d8
           replace p6:=eq_true p6
           replace p7:=eq_true p7
           try go_wp2_with (first | ((with_reducible refine gate_callee (f:=77) rfl ?_);refine gL (some 78) Try.func77 #[.agg #[.int .i64 ((rd_T45 l1 b0).f0),.slice p8 ((rd_T45 l1 b0).f1).length p9],.int .i64 d1] ?_;(with_reducible refine (numnahref07_Has.calls h5 ((rd_T45 l1 b0).f0) _ _ ((rd_T45 l1 b0).f1) d1 true _ ?side1 ?side2 A42.out).mono ?_);(case side1=>exact Kd.C_below n4.out (bl HB));(case side2=>exact n5.out);rintro e w59 ⟨rfl,hb⟩;refine ⟨_,rfl,?_⟩;replace b8:=A_ (Kd.R_below (by (with_reducible repeat (first | apply Kd.R_alloc | apply Kd.R_drewN | apply Kd.R_drew));exact (Kd.R_mono (Kd.R_far (p:=⟨d0,1,none⟩) (Kd.R_far (p:=⟨d0,0,none⟩) (Kd.R_mono b8.out (fun k_ hk=>(⟨hk,hk.2⟩:_ ∧ k_ ≠ d0))) (fun _ hk=>hk.2) (.int .i64 h1)) (fun _ hk=>hk.2) (.int .i64 h3)) (fun _ h_=>h_.1))) hb);replace b9:=A_ (Kd.R_below (by (with_reducible repeat (first | apply Kd.R_alloc | apply Kd.R_drewN | apply Kd.R_drew));exact (Kd.R_mono (Kd.R_far (p:=⟨d0,1,none⟩) (Kd.R_far (p:=⟨d0,0,none⟩) (Kd.R_types b9.out b3.out (by decide)) (fun _ hk=>hk.2) (.int .i64 h1)) (fun _ hk=>hk.2) (.int .i64 h3)) (fun _ h_=>h_.1))) hb);replace b1:=A_ (blk_below (g:=d2) (o:=.cells #[.int .i64 b7,.int .i64 b6] 23 (0,0)) (bf2_ d6 d6 b1) hb);replace b3:=A_ (blk_below (g:=d0) (o:=.cells #[.int .i64 h1,.int .i64 h3] 23 (0,0)) (by (with_reducible repeat (first | refine blk_drewN ?_ _ | refine blk_drew ?_ | refine blk_alloc ?_ _));refine blk_put (cs:=#[.int .i64 h1,.int .i64 b2]) ?_ 1 _ rfl;(with_reducible repeat (first | refine blk_drewN ?_ _ | refine blk_drew ?_ | refine blk_alloc ?_ _));refine blk_put (cs:=#[.int .i64 b4,.int .i64 b2]) ?_ 0 _ rfl;(with_reducible repeat (first | refine blk_drewN ?_ _ | refine blk_drew ?_ | refine blk_alloc ?_ _));exact b3.out) hb);replace HB:=bB HB hb;(try clear hb);obtain ⟨Ao60,co60,eo60⟩:=Kd.R_slice b9.out;subst eo60;have s2:0 ≤ (b0:Int):=oa_;have s3:b0 < (e7.length:Int):=oa_;obtain ⟨S3,K2,q9⟩:=Kd.at_bool (Kd.R_reads' b9.out).2.2 b0 s2 s3;(try rw [← G6.out] at q9);cases K2;replace s2:=eq_true s2;replace s3:=eq_true s3;have K3:0 ≤ (b0:Int):=oa_;have K4:b0 < (l1.length:Int):=oa_;obtain ⟨S5,A856_1,c856_1,e856,t6,t7,t8,t9⟩:=at_T45 s4.out b0 K3 K4;obtain rfl:n3 = S5:=(by injection e856);replace t6:=cT HB t6;replace t7:=cT HB t7;have Z8:=A_ t9;have Z9:=A_ t8;clear t9 t8;replace K3:=eq_true K3;replace K4:=eq_true K4))
           go_roundg h5
           case measure=>have:=m0.out;have:=m2.out;have:=m3.out;have:=m1.out;have:=n8.out;omega
           case rel=>exact ⟨(wrap64 (e3 + ((rd_T45 l1 b0).f0))),(wrap64 (b0 + 1)),(h1),(h3),rf_,rf_,H',⟨by have:=m0.out;have:=m2.out;have:=m3.out;have:=m1.out;have:=n8.out;omega⟩,⟨kr_ b8⟩,⟨kr_ b9⟩,⟨dr_ b1⟩,⟨dr_ b3⟩,⟨bl HB⟩⟩
end Go.Proofs.Ytjohcjfmlhihbaa.G
set_option linter.unusedSectionVars false
namespace Go.Proofs.Ytjohcjfmlhihbaa.P
open Go Go.RowKit Go.Proofs.Ytjohcjfmlhihbaa.G
open Go.Proofs.YtjohcjfmlhihbaaW.PrintWords Go.Proofs.YtjohcjfmlhihbaaW.PrintMore
theorem cnt_congr:∀ (m:Nat) (f g:Nat → Bool),(∀ v,v < m → g v = f v) → cnt m g = cnt m f
 | 0,_,_,_=>rfl
 | m + 1,f,g,h=>by rw [cnt_succ,cnt_succ,cnt_congr m f g fun v hv=>h v (by omega),h m (by omega)]
theorem cnt_upd:∀ (m:Nat) (f g:Nat → Bool) (i:Nat),i < m → f i = false → g i = true → (∀ v,v ≠ i → g v = f v) → cnt m g + 1 = cnt m f
 | 0,_,_,_,h,_,_,_=>by omega
 | m + 1,f,g,i,h,h1,h2,h3=>by
  rw [cnt_succ,cnt_succ]
  by_cases e:i = m
  ·subst e
   rw [h1,h2,cnt_congr i f g fun v hv=>h3 v (by omega)];rfl
  ·have:=cnt_upd m f g i (by omega) h1 h2 h3
   rw [h3 m (fun h=>e h.symm)]
   omega
section
variable {p:List Int} {u:List S45} (hN:IsN p u) {fix:Nat → Bool} {r:Nat → Rat} {lam:Rat} {D:Nat} (hF:FS p u fix r lam D)
include hN hF
theorem rfair_l3 {z:S23} {c b0 b1 b2:Int} {v:List S23} {q:Nat} (hq:q < p.length) (hb:Ev (fun k=>(if wN (netOf p u) u fix q u.length = 0 then numnahref07_Fair.l2 k p u (rts u.length z fix r) (tab u.length fix) c b0 ((q + 1:Nat):Int) b1 b2 else if b0 < 0 then numnahref07_Fair.l2 k p u (rts u.length z fix r) (tab u.length fix) c (q:Int) ((q + 1:Nat):Int) (muq p u fix r q).num ((muq p u fix r q).den:Int) else (numnahref07_Less.f (muq p u fix r q).num ((muq p u fix r q).den:Int) b1 b2).bind fun t=>if t = true then numnahref07_Fair.l2 k p u (rts u.length z fix r) (tab u.length fix) c (q:Int) ((q + 1:Nat):Int) (muq p u fix r q).num ((muq p u fix r q).den:Int) else numnahref07_Fair.l2 k p u (rts u.length z fix r) (tab u.length fix) c b0 ((q + 1:Nat):Int) b1 b2)) v) :
  ∀ d i,i + d = u.length → Ev (fun k=>numnahref07_Fair.l3 k p u (rts u.length z fix r) (tab u.length fix) c b0 (q:Int) (wN (netOf p u) u fix q i:Int) (i:Int) b1 b2 (lf (netOf p u) fix r q i).num ((lf (netOf p u) fix r q i).den:Int)) v:=by
 intro d
 have h6:=hN.u6
 have h5:=hN.p5
 induction d with
 | zero =>
  intro i hi
  obtain rfl:i = u.length:=by omega
  by_cases hw:wN (netOf p u) u fix q u.length = 0
  ·refine Ev.step (fun k=>by rw [numnahref07_Fair.l3,if_neg (by omega),if_pos (by omega),wrap_succ (by omega)]) ?_
   exact Ev.congr (fun k=>(if_pos hw).symm) hb
  ·have hln:=lf_num hN hF hq (i:=u.length) (Nat.le_refl _)
   have hwl:=wN_cnt hN fix q u.length (Nat.le_refl _)
   have hcm:=cnt_m u.length fix
   have hm:(lf (netOf p u) fix r q u.length).den * wN (netOf p u) u fix q u.length ≤ 2949120 * 24:=Nat.mul_le_mul hln.2 (by omega)
   have ho:=ev_frac (lf (netOf p u) fix r q u.length).num ((lf (netOf p u) fix r q u.length).den * wN (netOf p u) u fix q u.length) (Nat.mul_pos (den_pos _) (by omega)) (by omega) (by omega)
   rw [mk_over _ (by omega)] at ho
   have e:wrap64 (((lf (netOf p u) fix r q u.length).den:Int) * (wN (netOf p u) u fix q u.length:Int)) = (((lf (netOf p u) fix r q u.length).den * wN (netOf p u) u fix q u.length:Nat):Int):=by
    rw [show ((lf (netOf p u) fix r q u.length).den:Int) * (wN (netOf p u) u fix q u.length:Int) = (((lf (netOf p u) fix r q u.length).den * wN (netOf p u) u fix q u.length:Nat):Int) by push_cast;rfl]
    exact wrap_nat (by omega)
   refine Ev.step (fun k=>by rw [numnahref07_Fair.l3,if_neg (by omega),if_neg (by omega),e,ref_reduced,wrap_succ (by omega)]) (Ev.bind ho ?_)
   exact Ev.congr (fun k=>(if_neg hw).symm) hb
 | succ d ih =>
  intro i hi
  have hil:i < u.length:=by omega
  have hn:=ih (i + 1) (by omega)
  rw [lf_succ,wN] at hn
  have hrl:(rts u.length z fix r).length = u.length:=tab_length _ _
  have hr1:fix i = true → rd_T23 (rts u.length z fix r) (i:Int) = encQ (r i):=fun hf=>by unfold rts;rw [tab_T hil,if_pos hf]
  refine Ev.step (fun k=>by rw [numnahref07_Fair.l3,if_pos (by omega),if_pos (by omega),tab_length,tab_b hil]) (Ev.bind (ev_rhasN hN hil q) ?_)
  by_cases hh:(netOf p u).has i q = true
  ·refine Ev.congr (fun k=>if_pos hh) (Ev.congr (fun k=>if_pos (by omega)) ?_)
   by_cases hf:fix i = true
   ·rw [hh,hf,if_pos (show (true && true) = true from rfl),if_neg (show ¬ (true && !true) = true by decide)] at hn
    refine Ev.step (fun k=>by rw [numnahref07_Fair.j4,if_pos hf,if_pos (by omega),hrl,if_pos (by omega),hr1 hf,tab_length,tab_b hil,wrap_succ (by omega)];rfl) (Ev.bind (ev_rsub (lf_fits hN hF hq hil hf)) ?_)
    refine Ev.congr (fun k=>if_pos (by omega)) (Ev.bind (ev_rhasN hN hil q) ?_)
    exact Ev.congr (fun k=>if_pos hh) (Ev.congr (fun k=>if_pos (by omega)) (Ev.congr (fun k=>if_pos hf) hn))
   ·have hf':fix i = false:=by simpa using hf
    rw [hh,hf',if_neg (show ¬ (true && false) = true by decide),if_pos (show (true && !false) = true from rfl)] at hn
    obtain ⟨_,e2,_,e4⟩:=w_nat hN hil
    have hwl:=wN_cnt hN fix q i (by omega)
    have hcm:=cnt_m i fix
    have ew:wrap64 ((wN (netOf p u) u fix q i:Int) + (rd_T45 u (i:Int)).f0) = ((wN (netOf p u) u fix q i + (rd_T45 u (i:Int)).f0.toNat:Nat):Int):=by
     rw [wrap_id (by omega) (by omega)]
     omega
    refine Ev.step (fun k=>by rw [numnahref07_Fair.j4,if_neg hf,if_pos (by omega),if_pos (by omega),tab_length,tab_b hil,wrap_succ (by omega),ew]) (Ev.bind (ev_rhasN hN hil q) ?_)
    exact Ev.congr (fun k=>if_pos hh) (Ev.congr (fun k=>if_pos (by omega)) (Ev.congr (fun k=>if_neg hf) hn))
  ·have hh':(netOf p u).has i q = false:=by simpa using hh
   rw [hh',if_neg (show ¬ (false && !fix i) = true by simp),if_neg (show ¬ (false && fix i) = true by simp)] at hn
   refine Ev.congr (fun k=>if_neg hh) ?_
   refine Ev.step (fun k=>by rw [numnahref07_Fair.j4,if_neg (by decide),if_pos (by omega),if_pos (by omega),wrap_succ (by omega)]) (Ev.bind (ev_rhasN hN hil q) ?_)
   exact Ev.congr (fun k=>if_neg hh) hn
theorem rfair_l2 {z:S23} {c:Int} {v:List S23}:∀ d i b,i + d = p.length → Best p u fix r i b → Ev (fun k=>numnahref07_Fair.l4 k p u (rts u.length z fix r) (tab u.length fix) c (bP (srch p u fix r d i b)).1 0 (bP (srch p u fix r d i b)).2.1 (bP (srch p u fix r d i b)).2.2) v →
  Ev (fun k=>numnahref07_Fair.l2 k p u (rts u.length z fix r) (tab u.length fix) c (bP b).1 (i:Int) (bP b).2.1 (bP b).2.2) v:=by
 intro d
 have h5:=hN.p5
 induction d with
 | zero =>
  intro i b hi hB hv
  refine Ev.step (fun k=>?_) hv
  rw [numnahref07_Fair.l2,if_neg (by omega)];rfl
 | succ d ih =>
  intro i b hi hB hv
  have hil:i < p.length:=by omega
  have hn:=ih (i + 1) (better p u fix r i b) (by omega) (hB.next hil) hv
  have e:lf (netOf p u) fix r i 0 = ((rd p (i:Int):Int):Rat):=by
   unfold lf;rw [S_nil]
   show ((rd p (i:Int):Int):Rat) - 0 = _
   grind
  have h3:=fun hb=>rfair_l3 hN hF (z:=z) (c:=c) (b0:=(bP b).1) (b1:=(bP b).2.1) (b2:=(bP b).2.2) (v:=v) hil hb u.length 0 (by omega)
  rw [e,whole_num,whole_den] at h3
  refine Ev.step (fun k=>by rw [numnahref07_Fair.l2,if_pos (by omega),if_pos (by omega)]) ?_
  unfold numnahref07_Whole.f
  simp only [Option.bind_some]
  refine h3 ?_
  unfold better at hn
  by_cases hw:wN (netOf p u) u fix i u.length = 0
  ·rw [if_pos hw] at hn
   exact Ev.congr (fun k=>if_pos hw) hn
  ·rw [if_neg hw] at hn
   refine Ev.congr (fun k=>if_neg hw) ?_
   cases b with
   | none=>exact Ev.congr (fun k=>if_pos (by decide)) hn
   | some am =>
    obtain ⟨h1,h2,h3',_⟩:=hB
    have hc:=rless (mu_fits hN hF hil hw h1 h2)
    rw [← h3'] at hc
    refine Ev.congr (fun k=>if_neg (show ¬ ((am.1:Int) < 0) by omega)) ?_
    refine Ev.congr (fun k=>congrArg (fun z=>Option.bind z _) hc) ?_
    have hn':Ev (fun k=>numnahref07_Fair.l2 k p u (rts u.length z fix r) (tab u.length fix) c (bP (if muq p u fix r i < am.2 then some (i,muq p u fix r i) else some am)).1 ((i + 1:Nat):Int) (bP (if muq p u fix r i < am.2 then some (i,muq p u fix r i) else some am)).2.1 (bP (if muq p u fix r i < am.2 then some (i,muq p u fix r i) else some am)).2.2) v:=hn
    by_cases hlt:muq p u fix r i < am.2
    ·rw [if_pos hlt] at hn'
     exact Ev.congr (fun k=>if_pos (decide_eq_true hlt)) hn'
    ·rw [if_neg hlt] at hn'
     exact Ev.congr (fun k=>if_neg (by rw [decide_eq_false hlt];decide)) hn'
theorem rfair_l4 {z:S23} {v:List S23} {am:Nat × Rat} (hB:Best p u fix r p.length (some am)) (hv:Ev (fun k=>numnahref07_Fair.l1 k p u (rts u.length z (fixN p u fix am.1) (rN p u fix r am.1 am.2)) (tab u.length (fixN p u fix am.1)) (cnt u.length (fixN p u fix am.1):Int)) v):∀ d i,i + d = u.length →
  Ev (fun k=>numnahref07_Fair.l4 k p u (rts u.length z (fixI p u fix am.1 i) (rI p u fix r am.1 am.2 i)) (tab u.length (fixI p u fix am.1 i)) (cnt u.length (fixI p u fix am.1 i):Int) (am.1:Int) (i:Int) am.2.num (am.2.den:Int)) v:=by
 intro d
 have h6:=hN.u6
 induction d with
 | zero =>
  intro i hi
  obtain rfl:i = u.length:=by omega
  have e:cnt u.length (fixI p u fix am.1 u.length) = cnt u.length (fixN p u fix am.1):=cnt_congr _ _ _ fun v hv=>by unfold fixI;rw [if_pos hv]
  rw [last_lists.1,(last_lists (r:=r) (z:=z) (m:=am.2)).2,e]
  refine Ev.step (fun k=>?_) hv
  rw [numnahref07_Fair.l4,if_neg (by omega)]
 | succ d ih =>
  intro i hi
  have hil:i < u.length:=by omega
  have hn:=ih (i + 1) (by omega)
  have hlr:(rts u.length z (fixI p u fix am.1 i) (rI p u fix r am.1 am.2 i)).length = u.length:=tab_length _ _
  have hfi:fixI p u fix am.1 i i = fix i:=by unfold fixI;rw [if_neg (by omega)]
  refine Ev.step (fun k=>by rw [numnahref07_Fair.l4,if_pos (by omega),if_pos (by omega),tab_length,tab_b hil,hfi,hlr,wrap_succ (by omega)]) (Ev.bind (ev_rhasN hN hil am.1) ?_)
  have same:¬ (fix i = false ∧ (netOf p u).has i am.1 = true) → cnt u.length (fixI p u fix am.1 (i + 1)) = cnt u.length (fixI p u fix am.1 i):=fun h=>by
   have:=(next_same (r:=r) (z:=z) (m:=am.2) h).2
   refine cnt_congr _ _ _ fun v hv=>?_
   rw [← tab_b (f:=fixI p u fix am.1 (i + 1)) hv,this,tab_b hv]
  by_cases hh:(netOf p u).has i am.1 = true
  ·refine Ev.congr (fun k=>if_pos hh) (Ev.congr (fun k=>if_pos (by omega)) ?_)
   by_cases hf:fix i = true
   ·have hno:¬ (fix i = false ∧ (netOf p u).has i am.1 = true):=fun h=>by rw [hf] at h;cases h.1
    rw [(next_same hno).1,(next_same (r:=r) (z:=z) (m:=am.2) hno).2,same hno] at hn
    exact Ev.congr (fun k=>if_pos hf) hn
   ·have hf':fix i = false:=by simpa using hf
    have hc:cnt u.length (fixI p u fix am.1 (i + 1)) + 1 = cnt u.length (fixI p u fix am.1 i):=by
     refine cnt_upd _ _ _ i hil (by rw [hfi];exact hf') ?_ ?_
     ·unfold fixI fixN
      rw [if_pos (by omega),hh,Bool.or_true]
     ·intro v e
      unfold fixI
      by_cases e2:v < i
      ·rw [if_pos (by omega),if_pos e2]
      ·rw [if_neg (by omega),if_neg e2]
    have hcm:=cnt_m u.length (fixI p u fix am.1 i)
    have ec:wrap64 ((cnt u.length (fixI p u fix am.1 i):Int) - 1) = (cnt u.length (fixI p u fix am.1 (i + 1)):Int):=by
     rw [wrap_id (by omega) (by omega)];omega
    rw [(next_set ⟨hf',hh⟩).1,(next_set (r:=r) (z:=z) (m:=am.2) ⟨hf',hh⟩).2,← ec] at hn
    obtain ⟨h1,h2,h3,_⟩:=hB
    have hmu:=mu_num hN hF h1 h2
    rw [← h3] at hmu
    obtain ⟨_,e2,_,e4⟩:=w_nat hN hil
    have hsm:(am.2.num * (rd_T45 u (i:Int)).f0).natAbs < 9223372036854775808:=by
     rw [Int.natAbs_mul]
     exact Nat.lt_of_le_of_lt (Nat.mul_le_mul hmu.1 (show (rd_T45 u (i:Int)).f0.natAbs ≤ 4 by omega)) (by decide)
    have ht:=ev_frac (am.2.num * (rd_T45 u (i:Int)).f0) am.2.den (den_pos _) hsm (by omega)
    rw [mk_times] at ht
    have ht2:Ev (fun k=>numnahref07_Reduced.f k (wrap64 (am.2.num * (rd_T45 u (i:Int)).f0)) (am.2.den:Int)) ((am.2 * ((rd_T45 u (i:Int)).f0:Rat)).num,((am.2 * ((rd_T45 u (i:Int)).f0:Rat)).den:Int)):=by
     rw [wrap_abs hsm]
     exact Ev.congr (fun k=>ref_reduced k _ _) ht
    exact Ev.congr (fun k=>if_neg hf) (Ev.bind ht2 (Ev.congr (fun k=>if_pos (by omega)) hn))
  ·have hno:¬ (fix i = false ∧ (netOf p u).has i am.1 = true):=fun h=>hh h.2
   rw [(next_same hno).1,(next_same (r:=r) (z:=z) (m:=am.2) hno).2,same hno] at hn
   exact Ev.congr (fun k=>if_neg hh) hn
end
section
variable {p:List Int} {u:List S45} (hN:IsN p u)
include hN
theorem rfair_l1 (z:S23):∀ c (fix:Nat → Bool) (r:Nat → Rat) (lam:Rat) (D:Nat),FS p u fix r lam D → cnt u.length fix ≤ c → ∃ x,FairR p u x ∧ Ev (fun k=>numnahref07_Fair.l1 k p u (rts u.length z fix r) (tab u.length fix) (cnt u.length fix:Int)) (encL x):=by
 intro c
 have h6:=hN.u6
 induction c with
 | zero =>
  intro fix r lam D hF hc
  obtain ⟨h1,h2⟩:=hF.done hN (by omega) z
  refine ⟨_,h1,?_⟩
  rw [h2]
  refine Ev.step (f:=fun _=>some (encL (tab u.length r))) (fun k=>?_) (Ev.now _)
  rw [numnahref07_Fair.l1,if_neg (by omega)]
 | succ c ih =>
  intro fix r lam D hF hc
  by_cases h0:0 < cnt u.length fix
  ·obtain ⟨am,hs,hB⟩:=some_best hN hF h0
   obtain ⟨hF2,hlt⟩:=hF.next hN hB
   obtain ⟨x,hx,hv⟩:=ih _ _ _ _ hF2 (by omega)
   refine ⟨x,hx,Ev.step (fun k=>by rw [numnahref07_Fair.l1,if_pos (by omega)]) ?_⟩
   refine rfair_l2 hN hF p.length 0 none (by omega) (fun q hq=>by omega) ?_
   rw [hs]
   have h:=rfair_l4 hN hF hB hv u.length 0 (by omega)
   have e:cnt u.length (fixI p u fix am.1 0) = cnt u.length fix:=cnt_congr _ _ _ fun v hv=>by unfold fixI;rw [if_neg (by omega)]
   rw [first_lists.1,(first_lists (r:=r) (z:=z) (m:=am.2)).2,e] at h
   exact h
  ·exact ih fix r lam D hF (by omega)
theorem rfair_l0:∀ d i,i + d = u.length → ∃ x,FairR p u x ∧ Ev (fun k=>numnahref07_Fair.l0 k p u (tab u.length (fun v=>if v < i then (⟨0,1⟩:S23) else z23)) (tab u.length (fun _=>false)) (i:Int)) (encL x):=by
 intro d
 have h6:=hN.u6
 induction d with
 | zero =>
  intro i hi
  obtain rfl:i = u.length:=by omega
  obtain ⟨x,hx,hv⟩:=rfair_l1 hN ⟨0,1⟩ (cnt u.length (fun _=>false)) (fun _=>false) (fun _=>0) 0 1 (FS.start hN _) (Nat.le_refl _)
  refine ⟨x,hx,Ev.step (fun k=>?_) hv⟩
  have e:cnt u.length (fun _=>false) = u.length:=by
   unfold cnt
   exact (List.countP_eq_length.2 (fun _ _=>rfl)).trans List.length_range
  rw [numnahref07_Fair.l0,if_neg (by omega),e]
  congr 1
  exact tab_congr fun v hv=>by rw [if_pos hv];rfl
 | succ d ih =>
  intro i hi
  obtain ⟨x,hx,hv⟩:=ih (i + 1) (by omega)
  refine ⟨x,hx,Ev.step (fun k=>?_) hv⟩
  rw [numnahref07_Fair.l0,if_pos (by omega),numnahref07_Whole.f]
  simp only [Option.bind_some]
  rw [if_pos (by omega),tab_length,if_pos (by omega),wrap_succ (by omega),Int.toNat_natCast,tab_set]
  congr 1
  refine tab_congr fun v hv=>?_
  by_cases e:v = i
  ·subst e;rw [if_pos rfl,if_pos (by omega)]
  ·by_cases e2:v < i
   ·rw [if_neg e,if_pos e2,if_pos (by omega)]
   ·rw [if_neg e,if_neg e2,if_neg (by omega)]
theorem ev_rfair0:∃ x,FairR p u x ∧ Ev (fun k=>numnahref07_Fair.f k p u) (encL x):=by
 have h6:=hN.u6
 obtain ⟨x,hx,hv⟩:=rfair_l0 hN u.length 0 (by omega)
 refine ⟨x,hx,?_⟩
 unfold numnahref07_Fair.f
 refine Ev.congr (fun k=>if_pos (by omega)) (Ev.congr (fun k=>if_pos (by omega)) (Ev.congr (fun k=>if_pos (by omega)) ?_))
 rw [Int.toNat_natCast,tab_rep,tab_rep]
 have e:tab u.length (fun v=>if v < 0 then (⟨0,1⟩:S23) else z23) = tab u.length (fun _=>z23):=tab_congr fun v _=>by rw [if_neg (by omega)]
 rw [e] at hv
 exact hv
theorem FairR.eq {x y:List Rat} (hx:FairR p u x) (hy:FairR p u y):x = y:=by
 have h:=Net.unique (wpos hN) hx.fair hy.fair
 apply List.ext_getElem
 ·rw [hx.len,hy.len]
 ·intro i h1 h2
  have:=h i (by have:=hx.len;show i < u.length;omega)
  rwa [rt_get h1,rt_get h2] at this
theorem fair_both:∃ x,FairR p u x ∧ Ev (fun k=>shares_net_fair.f k p u) (encL x) ∧ Ev (fun k=>numnahref07_Fair.f k p u) (encL x):=by
 obtain ⟨x,hx,e1⟩:=ev_fair hN
 obtain ⟨y,hy,e2⟩:=ev_rfair0 hN
 rw [← hx.eq hN hy] at e2
 exact ⟨x,hx,e1,e2⟩
theorem fair_part {x:List Rat} {D:Nat} (d0:0 < D) (hb:∀ v,v < u.length → 0 ≤ rt x v ∧ rt x v ≤ ((200:Nat):Rat) ∧ (rt x v).den ∣ D) (q:Nat):∀ i,i ≤ u.length → (part (netOf p u) (rt x) q i).den ∣ D ∧ 0 ≤ part (netOf p u) (rt x) q i ∧ part (netOf p u) (rt x) q i ≤ ((200 * i:Nat):Rat)
 | 0,_=>⟨by rw [show part (netOf p u) (rt x) q 0 = 0 from rfl];exact Nat.one_dvd _,Rat.le_refl,by rw [show part (netOf p u) (rt x) q 0 = 0 from rfl];exact Rat.natCast_nonneg⟩
 | i + 1,h=>by
  obtain ⟨h1,h2,h3⟩:=fair_part d0 hb q i (by omega)
  obtain ⟨a,b,c⟩:=hb i (by omega)
  have e:((200 * (i + 1):Nat):Rat) = ((200 * i:Nat):Rat) + ((200:Nat):Rat):=by push_cast;grind
  have z:(0:Rat) ≤ ((200:Nat):Rat):=Rat.natCast_nonneg
  rw [part_succ,e]
  split
  ·exact ⟨add_den_dvd' h1 c d0,by grind,by grind⟩
  ·exact ⟨h1,h2,by grind⟩
theorem FairR.ok {x:List Rat} (hx:FairR p u x):OkR p u x:=by
 obtain ⟨D,d0,dD,hb⟩:=hx.bd
 have h6:=hN.u6
 have z:∀ n:Nat,(0:Rat) ≤ (n:Rat):=fun n=>Rat.natCast_nonneg
 have sm:∀ {q:Rat} {B:Nat},0 ≤ q → q ≤ (B:Rat) → q.den ≤ 2949120 → q.num.natAbs ≤ B * 2949120:=fun {q B} h0 h1 hd=>by
  have h5:=num_bound (B:=B) (by have:=z B;grind) h1
  exact Nat.le_trans h5 (Nat.mul_le_mul_left _ hd)
 have hr:∀ i,i < u.length → (rt x i).num.natAbs ≤ 589824000 ∧ (rt x i).den ≤ 2949120:=fun i hi=>by
  obtain ⟨a,b,c⟩:=hb i hi
  have hd:(rt x i).den ≤ 2949120:=Nat.le_trans (Nat.le_of_dvd d0 c) dD
  have:=sm a b hd
  exact ⟨by omega,hd⟩
 have hl:∀ i,i < u.length → (rt x i / (netOf p u).w i).num.natAbs ≤ 2359296000 ∧ (rt x i / (netOf p u).w i).den ≤ 11796480:=fun i hi=>by
  obtain ⟨e1,_,e3,e4⟩:=w_nat hN hi
  obtain ⟨a,b,c⟩:=hb i hi
  rw [e1]
  have n0:0 < (rd_T45 u (i:Int)).f0.toNat:=by omega
  have h1:=Nat.le_of_dvd (Nat.mul_pos (den_pos _) n0) (over_den (rt x i) n0)
  have h2:(rt x i).den * (rd_T45 u (i:Int)).f0.toNat ≤ 2949120 * 4:=Nat.mul_le_mul (hr i hi).2 e4
  have h3:=over_le n0 a
  have h5:=num_bound (B:=200) (by have:=z 200;grind) (Rat.le_trans h3.2 b)
  have h7:200 * (rt x i / (((rd_T45 u (i:Int)).f0.toNat:Nat):Rat)).den ≤ 200 * 11796480:=Nat.mul_le_mul_left _ (by omega)
  exact ⟨by omega,by omega⟩
 have fits:∀ {a b:Rat} {A B D E:Nat},a.num.natAbs ≤ A → a.den ≤ D → b.num.natAbs ≤ B → b.den ≤ E → A * E + B * D < 9223372036854775808 → D * E < 9223372036854775808 → Fits a b:=fun a1 a2 b1 b2 h h2 =>
  ⟨Nat.lt_of_le_of_lt (Nat.add_le_add (Nat.mul_le_mul a1 b2) (Nat.mul_le_mul b1 a2)) h,Nat.lt_of_le_of_lt (Nat.mul_le_mul a2 b2) h2⟩
 refine ⟨hx.len,fun q i hi=>?_,fun i j hi hj=>?_,fun i hi=>?_,fun i hi=>?_⟩
 ·obtain ⟨h1,h2,h3⟩:=fair_part hN d0 hb q i (by omega)
  have hd:(part (netOf p u) (rt x) q i).den ≤ 2949120:=Nat.le_trans (Nat.le_of_dvd d0 h1) dD
  have h4:=sm h2 (Rat.le_trans h3 (Rat.natCast_le_natCast.2 (by omega:200 * i ≤ 1200))) hd
  exact fits (A:=3538944000) (by omega) hd (hr i hi).1 (hr i hi).2 (by decide) (by decide)
 ·exact fits (hl i hi).1 (hl i hi).2 (hl j hj).1 (hl j hj).2 (by decide) (by decide)
 ·exact Nat.lt_of_le_of_lt (hr i hi).1 (by decide)
 ·have:=(hr i hi).2;omega
end
end Go.Proofs.Ytjohcjfmlhihbaa.P
namespace Go.Proofs.Ytjohcjfmlhihbaa.G
open Go.RowKit Go.Proofs.YtjohcjfmlhihbaaW.PrintWords Go.Proofs.YtjohcjfmlhihbaaW.PrintLast Go.Proofs.YtjohcjfmlhihbaaW.PrintMore
set_option maxHeartbeats 8000000
set_option maxRecDepth 100000
attribute [local go_sem] cond_true cond_false fld23_0 fld23_1 fld45_0 fld45_1 fld109_0 fld109_1 fld94_0 fld94_1 max2_int min2_int max_two min_two max_three min_three max_four min_four
attribute [local go_sem high] eqA23
def shares_Fair.l0:Nat → List (S23) → List Int → Int → Int → List Int → List (S45) → Option ((List (S23)) × List Int × Int)
 | 0,_,_,_,_,_,_=>none
 | k + 1,x9,h4,x23,h5,b8,b9=>if h5 < x23 then ((shares_net_held.f k b8 b9 x9 h5).bind fun b7=>(if h4.length < 17592186044416 then (shares_Fair.l0 k x9 (h4 ++ [b7]) x23 (wrap64 (h5 + 1)) b8 b9) else (none))) else (some (x9,h4,0))
def shares_Fair.f (k:Nat) (l0:List Int) (l1:List (S45)):Option ((List (S23)) × List Int × Int):=(shares_newNet.f k l0 l1).bind fun d1=>(if d1 = true then ((shares_net_fair.f k l0 l1).bind fun b1=>(shares_Fair.l0 k b1 ([]:List Int) (l1.length:Int) 0 l0 l1)) else (some (([]:List (S23)),([]:List Int),2)))
theorem shares_Fair.mono_l:∀ k,(∀ y0 y1 y2 y3 y4 y5,LeO (shares_Fair.l0 k y0 y1 y2 y3 y4 y5) (shares_Fair.l0 (k + 1) y0 y1 y2 y3 y4 y5))
 | 0=>fun _ _ _ _ _ _ r h=>by simp [shares_Fair.l0] at h
 | k + 1=>by
  have h6:=shares_Fair.mono_l k
  intro y0 y1 y2 y3 y4 y5
  unfold shares_Fair.l0
  repeat' first
  | (with_reducible first | exact h6 _ _ _ _ _ _ | exact shares_net_fair.mono _ _ _ | exact shares_net_held.mono _ _ _ _ _ | exact shares_newNet.mono _ _ _ | exact LeO.refl _ | exact LeO.none _ | refine LeO.ite ?_ ?_ | refine LeO.bind ?_ (fun _=>?_))
  | exact LeO.none _ | refine LeO.ite ?_ ?_ | refine LeO.bind ?_ (fun _=>?_)
theorem shares_Fair.mono:∀ a0 a1 k,LeO (shares_Fair.f k a0 a1) (shares_Fair.f (k + 1) a0 a1):=by
 intro a0 a1 k
 have h6:=shares_Fair.mono_l k
 unfold shares_Fair.f
 repeat' first
   | (with_reducible first | exact h6 _ _ _ _ _ _ | exact shares_net_fair.mono _ _ _ | exact shares_net_held.mono _ _ _ _ _ | exact shares_newNet.mono _ _ _ | exact LeO.refl _ | exact LeO.none _ | refine LeO.ite ?_ ?_ | refine LeO.bind ?_ (fun _=>?_))
   | exact LeO.none _ | refine LeO.ite ?_ ?_ | refine LeO.bind ?_ (fun _=>?_)
theorem shares_Fair.calls (k:Nat) (A0:Option Addr) (c0:Nat) (l0:List Int) (A1:Option Addr) (c1:Nat) (l1:List (S45)) (r1:List (S23)) (r2:List Int) (r3:Int) (w:World) (i6:Kd.C (Kd.int .i64) w A0 l0.length l0) (i7:l0.length ≤ c0) (i8:Kd.C k45 w A1 l1.length l1) (i9:l1.length ≤ c1) (h:shares_Fair.f k l0 l1 = some (r1,r2,r3)) :
  Calls Try.prog 32 #[.slice A0 l0.length c0,.slice A1 l1.length c1] w fun e w'=>∃ j5 j7:Value,e = .returned (.tuple #[j5,j7,.int .i64 r3]) ∧ Kd.R k23 23 w' w.heap.size (fun _=>True) j5 r1 ∧ Kd.R (Kd.int .i64) 3 w' w.heap.size (fun _=>True) j7 r2 ∧ Below w.heap.size w w':=by
 have j8:=Try.underlying109
 have e2:=A_ i6
 have e3:=A_ i7
 clear i6 i7
 have e4:=A_ i8
 have e5:=A_ i9
 clear i8 i9
 have HB:=A_ (Below.refl w.heap.size w)
 have H:((shares_newNet.f k l0 l1).bind fun d1=>(if d1 = true then ((shares_net_fair.f k l0 l1).bind fun b1=>(shares_Fair.l0 k b1 ([]:List Int) (l1.length:Int) 0 l0 l1)) else (some (([]:List (S23)),([]:List Int),2)))) = some (r1,r2,r3):=h
 clear h
 replace H:=Option.bind_eq_some_iff.mp H
 obtain ⟨d1,j9,H⟩:=H
 replace H:(if d1 = true then ((shares_net_fair.f k l0 l1).bind fun b1=>(shares_Fair.l0 k b1 ([]:List Int) (l1.length:Int) 0 l0 l1)) else (some (([]:List (S23)),([]:List Int),2))) = some (r1,r2,r3):=H
 have A3:=A_ j9
 clear j9
 by_cases c4:d1 = true
 case neg =>
  replace c4:=Bool.eq_false_iff.mpr c4
  subst c4
  rw [if_neg (show ¬ (false = true) by decide)] at H
  simp only [Option.some.injEq,Prod.mk.injEq] at H
  obtain ⟨rfl,rfl,rfl⟩:=H
  go_enter Try.func32,Try.ntmps32
  go_wp2_with (first | ((with_reducible refine gate_callee (f:=70) rfl ?_);refine gL (some 15) Try.func70 #[.slice A0 l0.length c0,.slice A1 l1.length c1] ?_;(with_reducible refine (shares_newNet.calls k _ _ l0 _ _ l1 false _ ?side1 ?side2 ?side3 ?side4 A3.out).mono ?_);(case side1=>repeat (first | exact e2.out | (with_reducible refine Kd.C_alloc ?_ _) | (with_reducible refine Kd.C_drewN ?_ _) | (with_reducible refine Kd.C_drew ?_)));(case side2=>exact e3.out);(case side3=>repeat (first | exact e4.out | (with_reducible refine Kd.C_alloc ?_ _) | (with_reducible refine Kd.C_drewN ?_ _) | (with_reducible refine Kd.C_drew ?_)));(case side4=>exact e5.out);rintro e m6 ⟨rfl,hb⟩;refine ⟨_,rfl,?_⟩;replace HB:=bB HB hb;(try clear hb)) | ((with_reducible refine gate_dst (N:=7) rfl ?_);refine bx 7 #[.slice none 0 0,.slice none 0 0] 109 ?_;intro d3 hg l5 hbox hb;have d0:=A_ hbox;have d4:=gw hg HB;have l6:=d4;replace HB:=bB HB hb;clear hb hbox hg;have e6:l5.cell? ⟨d3,0,none⟩ = some (.slice none 0 0):=cz d0 0;have e7:l5.cell? ⟨d3,1,none⟩ = some (.slice none 0 0):=cz d0 1;have e8:=blk_frozen d0.out 0;have e9:=blk_frozen d0.out 1))
  go_ret3
  exact ⟨_,_,rfl,by first | exact Kd.R_nil _ _ _ _ _ | exact Kd.N_nil _ _ _ _ _ | exact Kd.V_nil _ _ _ _ _ | exact Kd.Q_nil _ _ _ _ _ | exact Kd.S_nil _ _ _ _ _,by first | exact Kd.R_nil _ _ _ _ _ | exact Kd.N_nil _ _ _ _ _ | exact Kd.V_nil _ _ _ _ _ | exact Kd.Q_nil _ _ _ _ _ | exact Kd.S_nil _ _ _ _ _,bl HB⟩
 subst c4
 rw [if_pos rfl] at H
 replace H:=Option.bind_eq_some_iff.mp H
 obtain ⟨b1,l7,H⟩:=H
 replace H:(shares_Fair.l0 k b1 ([]:List Int) (l1.length:Int) 0 l0 l1) = some (r1,r2,r3):=H
 have A5:=A_ l7
 clear l7
 have H':=A_ H
 clear H
 go_enter Try.func32,Try.ntmps32
 go_wp2_with (first | ((with_reducible refine gate_callee (f:=70) rfl ?_);refine gL (some 15) Try.func70 #[.slice A0 l0.length c0,.slice A1 l1.length c1] ?_;(with_reducible refine (shares_newNet.calls k _ _ l0 _ _ l1 true _ ?side1 ?side2 ?side3 ?side4 A3.out).mono ?_);(case side1=>repeat (first | exact e2.out | (with_reducible refine Kd.C_alloc ?_ _) | (with_reducible refine Kd.C_drewN ?_ _) | (with_reducible refine Kd.C_drew ?_)));(case side2=>exact e3.out);(case side3=>repeat (first | exact e4.out | (with_reducible refine Kd.C_alloc ?_ _) | (with_reducible refine Kd.C_drewN ?_ _) | (with_reducible refine Kd.C_drew ?_)));(case side4=>exact e5.out);rintro e w6 ⟨rfl,hb⟩;refine ⟨_,rfl,?_⟩;replace HB:=bB HB hb;(try clear hb)) | ((with_reducible refine gate_dst (N:=7) rfl ?_);refine bx 7 #[.slice none 0 0,.slice none 0 0] 109 ?_;intro b3 hg w7 hbox hb;have b0:=A_ hbox;have d5:=gw hg HB;have l8:=d5;replace HB:=bB HB hb;clear hb hbox hg;have h7:w7.cell? ⟨b3,0,none⟩ = some (.slice none 0 0):=cz b0 0;have h8:w7.cell? ⟨b3,1,none⟩ = some (.slice none 0 0):=cz b0 1;have h9:=blk_frozen b0.out 0;have i0:=blk_frozen b0.out 1) | ((with_reducible refine gate_callee (f:=71) rfl ?_);refine gL (some 21) Try.func71 #[.agg #[.slice A0 l0.length c0,.slice A1 l1.length c1]] ?_;(with_reducible refine (shares_net_fair.calls k _ _ l0 _ _ l1 b1 _ ?side1 ?side2 ?side3 ?side4 A5.out).mono ?_);(case side1=>exact Kd.C_below e2.out (bl HB));(case side2=>exact e3.out);(case side3=>exact Kd.C_below e4.out (bl HB));(case side4=>exact e5.out);rintro e w9 ⟨i1,rfl,m1,hb⟩;refine ⟨_,rfl,?_⟩;have d6:=A_ (Kd.R_lower m1 (below_size (bl HB)));replace b0:=A_ (blk_below (g:=b3) (o:=.cells #[.slice A0 l0.length c0,.slice A1 l1.length c1] 109 (0,0)) (by (with_reducible repeat (first | refine blk_drewN ?_ _ | refine blk_drew ?_ | refine blk_alloc ?_ _));refine blk_put (cs:=#[.slice A0 l0.length c0,.slice none 0 0]) ?_ 1 _ rfl;(with_reducible repeat (first | refine blk_drewN ?_ _ | refine blk_drew ?_ | refine blk_alloc ?_ _));refine blk_put (cs:=#[.slice none 0 0,.slice none 0 0]) ?_ 0 _ rfl;(with_reducible repeat (first | refine blk_drewN ?_ _ | refine blk_drew ?_ | refine blk_alloc ?_ _));exact b0.out) hb);replace HB:=bB HB hb;(try clear hb)))
 go_loopg [10,24] k (fun kq m2 m3 w'=>∃ (b4:List Int) (b2:Int),m3 = .int .i64 b2 ∧ Aside0 (shares_Fair.l0 kq b1 b4 (l1.length:Int) b2 l0 l1 = some (r1,r2,r3)) ∧ Aside0 (kq ≤ k) ∧ Aside0 (Kd.R k23 23 w' w.heap.size (fun _=>True) i1 b1) ∧ Aside0 (Kd.R (Kd.int .i64) 3 w' w.heap.size (fun _=>True) m2 b4) ∧ Aside0 (w'.heap[b3]? = some (.cells #[(.slice A0 l0.length c0),(.slice A1 l1.length c1)] 109 (0,0))) ∧ Aside0 (Below w.heap.size w w'))
 case atStart=>exact ⟨(([]:List Int)),(0),rfl,H',⟨Nat.le_refl _⟩,⟨by (with_reducible repeat (first | apply Kd.R_alloc | apply Kd.R_drewN | apply Kd.R_drew));exact d6.out⟩,⟨by first | exact Kd.R_nil _ _ _ _ _ | exact Kd.N_nil _ _ _ _ _ | exact Kd.V_nil _ _ _ _ _ | exact Kd.Q_nil _ _ _ _ _ | exact Kd.S_nil _ _ _ _ _⟩,⟨by (with_reducible repeat (first | refine blk_drewN ?_ _ | refine blk_drew ?_ | refine blk_alloc ?_ _));exact b0.out⟩,⟨bl HB⟩⟩
 case round =>
  clear H'
  obtain ⟨b4,b2,rfl,HA,l9,b6,b5,b0,HB⟩:=hrel
  cases gk with
  | zero=>exact absurd HA.out (by simp [shares_Fair.l0])
  | succ k1 =>
   have H:=HA.out
   clear HA
   simp only [shares_Fair.l0] at H
   by_cases c10:b2 < (l1.length:Int)
   case neg =>
    rw [if_neg c10] at H
    have d7:=decide_eq_false c10
    clear c10
    simp only [Option.some.injEq,Prod.mk.injEq] at H
    obtain ⟨rfl,rfl,rfl⟩:=H
    go_wp2
    go_ret3
    exact ⟨_,_,rfl,by (with_reducible repeat (first | apply Kd.R_alloc | apply Kd.R_drewN | apply Kd.R_drew));exact b6.out,by (with_reducible repeat (first | apply Kd.R_alloc | apply Kd.R_drewN | apply Kd.R_drew));exact b5.out,bl HB⟩
   rw [if_pos c10] at H
   have d7:=decide_eq_true c10
   clear c10
   replace H:=Option.bind_eq_some_iff.mp H
   obtain ⟨b7,d8,H⟩:=H
   replace H:(if b4.length < 17592186044416 then (shares_Fair.l0 k1 b1 (b4 ++ [b7]) (l1.length:Int) (wrap64 (b2 + 1)) l0 l1) else (none)) = some (r1,r2,r3):=H
   have m4:=A_ d8
   clear d8
   replace H:=gd H
   obtain ⟨m0,H⟩:=H
   have d9:=A_ m0
   clear m0
   obtain ⟨i2,d2⟩:∃ y_:List Int,y_ = (b4 ++ [b7]):=⟨_,rfl⟩
   rw [← d2] at H
   have e0:=A_ d2
   clear d2
   have H':=A_ H
   clear H
   have h0:wr.cell? ⟨b3,0,none⟩ = some (.slice A0 l0.length c0):=cz b0 0
   have h1:wr.cell? ⟨b3,1,none⟩ = some (.slice A1 l1.length c1):=cz b0 1
   have h2:=blk_frozen b0.out 0
   have h3:=blk_frozen b0.out 1
   obtain ⟨i3,i4,i5⟩:=Kd.R_slice b6.out
   subst i5
   go_wp2_with (first | ((with_reducible refine gate_callee (f:=72) rfl ?_);refine gL (some 31) Try.func72 #[.agg #[.slice A0 l0.length c0,.slice A1 l1.length c1],.slice i3 b1.length i4,.int .i64 b2] ?_;(with_reducible refine (shares_net_held.calls k1 _ _ l0 _ _ l1 _ _ b1 b2 b7 _ ?side1 ?side2 ?side3 ?side4 ?side5 ?side6 m4.out).mono ?_);(case side1=>exact cB e2 HB);(case side2=>exact e3.out);(case side3=>exact cB e4 HB);(case side4=>exact e5.out);(case side5=>repeat (first | exact (Kd.R_reads' b6.out).2.2 | (with_reducible refine Kd.C_alloc ?_ _) | (with_reducible refine Kd.C_drewN ?_ _) | (with_reducible refine Kd.C_drew ?_)));(case side6=>exact (Kd.R_reads' b6.out).2.1);rintro e m7 ⟨rfl,hb⟩;refine ⟨_,rfl,?_⟩;replace b6:=rB b6 hb;replace b5:=rB b5 hb;replace b0:=kB b0 hb;replace HB:=bB HB hb;(try clear hb)) | ((with_reducible refine gate_builtin (b:=.append) (xs:=#[.tmp 27,.tmp 32]) rfl ?_);at_builtin;refine Kd.R_append (Kd.int .i64) (w0:=w) w.heap.size rfl (.tmp 27) (.tmp 32) 28 3 (.int .i64 0) 8 rfl Try.underlying28 info3 rfl (by decide) (by omega) u10 b4 b7 [.int .i64 b7] (fun _=>True) (fun _=>False) rfl rfl ?aP (fun _ hk=>hk.elim) ?aF ?aO ?aB ?aS ?aL ?_;(case aP=>exact rfl);(case aB=>exact HB.out);(case aF=>exact (fun _ _=>trivial));(case aO=>exact b5.out);(case aS=>exact (below_size HB.out));(case aL=>have:=d9.out;omega);intro m5 m8 ho hb hg hat;rw [← e0.out] at ho;have e1:=A_ ho;replace b6:=A_ (Kd.R_over' b6.out (Kd.R_typed b5.out) (by decide) hg);replace b0:=A_ (blk_grown (g:=b3) (o:=.cells #[.slice A0 l0.length c0,.slice A1 l1.length c1] 109 (0,0)) b0.out hg (Kd.R_ne b5.out b0.out (by decide)));replace HB:=A_ hb;clear b5;clear ho hb hg hat))
   go_roundg k1
   case measure=>have:=l9.out;omega
   case rel=>exact ⟨(i2),(wrap64 (b2 + 1)),rfl,H',⟨by have:=l9.out;omega⟩,⟨by (with_reducible repeat (first | apply Kd.R_alloc | apply Kd.R_drewN | apply Kd.R_drew));exact b6.out⟩,⟨by (with_reducible repeat (first | apply Kd.R_alloc | apply Kd.R_drewN | apply Kd.R_drew));exact e1.out⟩,⟨by (with_reducible repeat (first | refine blk_drewN ?_ _ | refine blk_drew ?_ | refine blk_alloc ?_ _));exact b0.out⟩,⟨bl HB⟩⟩
end Go.Proofs.Ytjohcjfmlhihbaa.G
set_option linter.unusedSectionVars false
namespace Go.Proofs.Ytjohcjfmlhihbaa.P
open Go Go.RowKit Go.Proofs.Ytjohcjfmlhihbaa.G
open Go.Proofs.YtjohcjfmlhihbaaW.PrintWords Go.Proofs.YtjohcjfmlhihbaaW.PrintMore
def heldI (p:List Int) (u:List S45) (x:List Rat) (i:Nat):Int:=firstI (fun q=>holdsB (netOf p u) (rt x) q i) p.length 0
theorem tab_I {m:Nat} {f:Nat → Int} {i:Nat} (h:i < m):rd (tab m f) (i:Int) = f i:=by
 rw [rd_get (by rw [tab_length];exact h),tab_get]
theorem tab_succ {α:Type} (m:Nat) (f:Nat → α):tab m f ++ [f m] = tab (m + 1) f:=by
 unfold tab
 rw [List.range_succ,List.map_append];rfl
section
variable {p:List Int} {u:List S45} (hN:IsN p u) {x:List Rat} (hx:OkR p u x)
include hN hx
theorem Fair_l0:∀ d i,i + d = u.length → Ev (fun k=>shares_Fair.l0 k (encL x) (tab i (heldI p u x)) (u.length:Int) (i:Int) p u) (encL x,tab u.length (heldI p u x),0):=by
 intro d
 have h6:=hN.u6
 induction d with
 | zero =>
  intro i hi
  obtain rfl:i = u.length:=by omega
  refine Ev.step (f:=fun _=>some (encL x,tab u.length (heldI p u x),0)) (fun k=>?_) (Ev.now _)
  rw [shares_Fair.l0,if_neg (by omega)]
 | succ d ih =>
  intro i hi
  have hil:i < u.length:=by omega
  have hn:=ih (i + 1) (by omega)
  rw [← tab_succ] at hn
  refine Ev.step (fun k=>by rw [shares_Fair.l0,if_pos (by omega),wrap_succ (by omega)]) (Ev.bind (ev_held hN hx hil) ?_)
  exact Ev.congr (fun k=>if_pos (by rw [tab_length];omega)) hn
end
theorem ev_Fair {p:List Int} {u:List S45} (hok:okNet p u = true) (hp:p.length ≤ 1000000) (hu:u.length ≤ 1000000) (hf:H.fitL p) (hul:∀ a ∈ u,a.f1.length ≤ 1000000):∃ x,FairR p u x ∧ Ev (fun k=>shares_Fair.f k p u) (encL x,tab u.length (heldI p u x),0) ∧ Ev (fun k=>numnahref07_Fair.f k p u) (encL x):=by
 have hN:=isN hok
 have e0:=ev_newNet (p:=p) (u:=u) hp hu hf hul
 rw [hok] at e0
 obtain ⟨x,hx,e1,e2⟩:=fair_both hN
 refine ⟨x,hx,?_,e2⟩
 unfold shares_Fair.f
 exact Ev.bind e0 (Ev.bind e1 (Fair_l0 hN (hx.ok hN) u.length 0 (by omega)))
end Go.Proofs.Ytjohcjfmlhihbaa.P
namespace Go.Proofs.Ytjohcjfmlhihbaa.G
open Go
theorem nil28_none (n c:Nat) (w:World):(binOp .eql 28 (.slice none n c) (.slice none 0 0)).run Try.prog w = Result.ok (.bool true) w:=by kernel_rfl
theorem nil28_some (a:Addr) (n c:Nat) (w:World):(binOp .eql 28 (.slice (some a) n c) (.slice none 0 0)).run Try.prog w = Result.ok (.bool false) w:=by kernel_rfl
end Go.Proofs.Ytjohcjfmlhihbaa.G
namespace Go.Proofs.Ytjohcjfmlhihbaa.G
open Go.RowKit Go.Proofs.YtjohcjfmlhihbaaW.PrintWords Go.Proofs.YtjohcjfmlhihbaaW.PrintLast Go.Proofs.YtjohcjfmlhihbaaW.PrintMore
set_option maxHeartbeats 8000000
set_option maxRecDepth 100000
attribute [local go_sem] cond_true cond_false fld23_0 fld23_1 fld45_0 fld45_1 fld109_0 fld109_1 fld94_0 fld94_1 max2_int min2_int max_two min_two max_three min_three max_four min_four   -- for this text's walks alone
attribute [local go_sem high] nil28_none nil28_some
def slices_Clone_int_int.f (l0:List Int):Option (List Int):=(some (([]:List Int):List Int)).bind fun b0=>(if b0.length + l0.length < 17592186044416 then (some (b0 ++ l0)) else (none))
theorem slices_Clone_int_int.callsS (a0:Addr) (c0:Nat) (l0:List Int) (r:List Int) (w:World) (b7:Kd.C (Kd.int .i64) w (some a0) l0.length l0) (d2:l0.length ≤ c0) (h:slices_Clone_int_int.f l0 = some r) :
  Calls Try.prog 79 #[.slice (some a0) l0.length c0] w fun e w'=>∃ b3:Value,e = .returned (b3) ∧ Kd.R (Kd.int .i64) 3 w' w.heap.size (fun _=>True) b3 r ∧ Below w.heap.size w w':=by
 have d6:=Aside0.mk b7
 have d8:=Aside0.mk d2
 clear b7 d2
 have HB:=Aside0.mk (Below.refl w.heap.size w)
 have H:((some (([]:List Int):List Int)).bind fun b0=>(if b0.length + l0.length < 17592186044416 then (some (b0 ++ l0)) else (none))) = some r:=h
 clear h
 obtain ⟨b0,b1⟩:∃ y_:List Int,y_ = (([]:List Int)):=⟨_,rfl⟩
 replace H:(if b0.length + l0.length < 17592186044416 then (some (b0 ++ l0)) else (none)) = some r:=by first | (rw [b1];with_reducible exact H) | (have b6:=(Option.bind_some _ _).symm.trans H;rw [b1];with_reducible exact b6) | (have b6:=(Option.bind_some _ _).symm.trans H;with_reducible exact b6) | with_reducible exact H | (rw [b1];exact H) | exact H
 have b4:=Aside0.mk b1
 clear b1
 by_cases c2:b0.length + l0.length < 17592186044416
 case neg =>
  rw [if_neg c2] at H
  exact absurd H (by simp)
 rw [if_pos c2] at H
 have d3:=Aside0.mk c2
 clear c2
 obtain ⟨d4,b2⟩:∃ y_:List Int,y_ = (b0 ++ l0):=⟨_,rfl⟩
 replace H:(some d4) = some r:=by first | (rw [b2];with_reducible exact H) | (have b6:=(Option.bind_some _ _).symm.trans H;rw [b2];with_reducible exact b6) | (have b6:=(Option.bind_some _ _).symm.trans H;with_reducible exact b6) | with_reducible exact H | (rw [b2];exact H) | exact H
 have b8:=Aside0.mk b2
 clear b2
 obtain rfl:=Option.some.inj H
 go_enter Try.func79,Try.ntmps79
 go_wp2_with (first | ((with_reducible refine gate_dst (N:=5) rfl ?_);refine Kd.R_lit (Kd.int .i64) _ 3 ?hg (N:=5) ?hd (xs:=([]:List Int)) (inner:=[]) (ok:=fun _=>True) (okp:=fun _=>True) ?hr ?hp (fun _ hk=>hk) trivial (Below.refl _ _) (Nat.le_refl _) (by simp) ?_;(case hd=>rfl);(case hg=>rfl);(case hr=>first | (go_simp;done) | (go_simp;rfl));(case hp=>exact (Reps.none _ _));intro d5 w3 b9 hb hg_ hnew_;clear hg_ hnew_;(first | rw [← b4.out] at b9 | (simp only [Int.reduceToNat] at b9;rw [← b4.out] at b9));have c1:=Aside0.mk (Kd.R_lower b9 (below_size (by repeat (first | (with_reducible first | exact HB.out | apply below_alloc | apply pw_below_drewN | apply below_drew1) | exact HB.out))));have d0:=Aside0.mk (below_step (by repeat (first | (with_reducible first | exact HB.out | apply below_alloc | apply pw_below_drewN | apply below_drew1) | exact HB.out)) hb);clear HB;have b5:=c1;have HB:=d0;clear c1 d0;clear hb b9) | ((with_reducible refine gate_builtin (b:=.append) (xs:=#[.tmp 5,.tmp 6]) rfl ?_);at_builtin;refine Kd.R_append_rows (Kd.int .i64) (w0:=w) w.heap.size rfl (.tmp 5) (.tmp 6) 28 3 (.int .i64 0) 8 rfl Try.underlying28 info3 rfl (by decide) (by omega) d5 b0 l0 _ _ _ (fun _=>True) (fun _=>False) rfl rfl ?aO ?aR (fun _ _ h=>h) (fun _ h=>h.elim) ?aF ?aB ?aS ?aL ?_;(case aR=>repeat (first | exact (Kd.C_below d6.out HB.out) | (with_reducible refine Kd.C_alloc ?_ _) | (with_reducible refine Kd.C_drewN ?_ _) | (with_reducible refine Kd.C_drew ?_)));(case aB=>exact (by repeat (first | (with_reducible first | exact HB.out | apply below_alloc | apply pw_below_drewN | apply below_drew1) | exact HB.out)));(case aF=>exact (fun _ _=>trivial));(case aO=>exact (by (with_reducible repeat (first | apply Kd.R_alloc | apply Kd.R_drewN | apply Kd.R_drew));exact b5.out));(case aS=>exact (below_size (by repeat (first | (with_reducible first | exact HB.out | apply below_alloc | apply pw_below_drewN | apply below_drew1) | exact HB.out))));(case aL=>have:=d3.out;omega);intro d7 w5 ho hb hg hat;rw [← b8.out] at ho;have c1:=Aside0.mk (hb);have d0:=Aside0.mk (ho);clear HB;clear b5;have HB:=c1;have d1:=d0;clear c1 d0;clear ho hb hg hat))
 go_ret
 exact ⟨_,by first | rfl | (simp [errW_none,errW_some] <;> rfl) | (simp [*,errW_none,errW_some] <;> rfl),by (with_reducible repeat (first | apply Kd.R_alloc | apply Kd.R_drewN | apply Kd.R_drew));exact d1.out,by repeat (first | (with_reducible first | exact HB.out | apply below_alloc | apply pw_below_drewN | apply below_drew1) | exact HB.out)⟩
theorem slices_Clone_int_int.callsN (c0:Nat) (w:World) :
  Calls Try.prog 79 #[.slice none 0 c0] w fun e w'=>∃ b3:Value,e = .returned (b3) ∧ Kd.R (Kd.int .i64) 3 w' w.heap.size (fun _=>True) b3 ([]:List Int) ∧ Below w.heap.size w w':=by
 have HB:=Aside0.mk (Below.refl w.heap.size w)
 go_enter Try.func79,Try.ntmps79
 go_wp2
 go_ret
 exact ⟨_,rfl,Kd.R_nil _ _ _ _ _,HB.out⟩
theorem slices_Clone_int_int.calls (A0:Option Addr) (c0:Nat) (l0:List Int) (r:List Int) (w:World) (b7:Kd.C (Kd.int .i64) w A0 l0.length l0) (d2:l0.length ≤ c0) (h:slices_Clone_int_int.f l0 = some r) :
  Calls Try.prog 79 #[.slice A0 l0.length c0] w fun e w'=>∃ b3:Value,e = .returned (b3) ∧ Kd.R (Kd.int .i64) 3 w' w.heap.size (fun _=>True) b3 r ∧ Below w.heap.size w w':=by
 cases A0 with
 | some a0=>exact slices_Clone_int_int.callsS a0 c0 l0 r w b7 d2 h
 | none =>
  cases l0 with
  | nil =>
   unfold slices_Clone_int_int.f at h
   rw [Option.bind_some,if_pos (by decide)] at h
   obtain rfl:=Option.some.inj h
   exact slices_Clone_int_int.callsN c0 w
  | cons x l =>
   obtain ⟨ad,e,_⟩:=Kd.at_int b7 0 (Int.le_refl 0) (by simp)
   cases e
end Go.Proofs.Ytjohcjfmlhihbaa.G
namespace Go.Proofs.Ytjohcjfmlhihbaa.G
open Go Go.RowKit Go.Shelf Go.Proofs.Ytjohcjfmlhihbaa.H Go.Proofs.YtjohcjfmlhihbaaW.PrintWords
attribute [local go_sem] Oper.semAt_some wide_fn
def zeroO:List Int → List Int → Option Bool
 | [],_=>some false
 | p :: l,m=>if 0 ≤ p ∧ p < (m.length:Int) then (if rd m p = 0 then some true else zeroO l m) else none
set_option maxHeartbeats 2000000 in
theorem c81_any (p:Int) (A1:Option Addr) (c1:Nat) (m:List Int) (w:World) (gb:Nat) (BK0:w.heap[gb]? = some (.cells #[.slice A1 m.length c1] 28 (0,0))) (hr1:Kd.C (Kd.int .i64) w A1 m.length m) (h0:0 ≤ p) (h1:p < (m.length:Int)) :
  Calls Try.prog 81 #[.int .i64 p,.pointer (some ⟨gb,0,none⟩)] w fun e w'=>e = .returned (.bool (decide (rd m p = 0))) ∧ Below w.heap.size w w':=by
 refine (callsIn_wide (n:=9)).1 ?_
 refine callsIn_of_wp Try.func81 rfl trivial ?_
 simp only [Try.ntmps81,List.size_toArray,List.length_cons,List.length_nil,Nat.reduceAdd,Nat.reduceSub,Array.replicate_succ,Array.replicate_zero,List.push_toArray,List.append_toArray,List.nil_append,List.cons_append]
 have k0:=(blk_cell BK0 0).trans rfl
 obtain ⟨ad,e0,hx⟩:=Kd.at_int hr1 p h0 h1
 cases e0
 gi_wp2_with fail
 exact bodyPost_ret (v:=.bool (decide (rd m p = 0))) (results_tmp (t:=3) rfl _ _ _) rfl ⟨rfl,Below.refl _ _⟩
set_option maxHeartbeats 4000000 in
set_option maxRecDepth 100000 in
theorem index81 (A:Option Addr) (c:Nat) (l:List Int) (A1:Option Addr) (c1:Nat) (m:List Int) (w:World) (gb:Nat) (BK0:w.heap[gb]? = some (.cells #[.slice A1 m.length c1] 28 (0,0))) (hr1:Kd.C (Kd.int .i64) w A1 m.length m) (hl:Kd.C (Kd.int .i64) w A l.length l) (r:Bool) (hr:zeroO l m = some r) (hlen:fitL l) :
  Calls Try.prog 109 #[.slice A l.length c,.func (.func 81) #[] #[.pointer (some ⟨gb,0,none⟩)]] w fun e w'=>∃ i:Int,e = .returned (.int .i64 i) ∧ decide (0 ≤ i) = r ∧ Below w.heap.size w w':=by
 refine (callsIn_wide (n:=9)).1 ?_
 refine callsIn_of_wp Try.func109 rfl trivial ?_
 simp only [Try.ntmps109,List.size_toArray,List.length_cons,List.length_nil,Nat.reduceAdd,Nat.reduceSub,Array.replicate_succ,Array.replicate_zero,List.push_toArray,List.append_toArray,List.nil_append,List.cons_append]
 unfold fitL at hlen
 have HL:=Lib.hid hl
 have HM:=Lib.hid hr1
 have HK:=Lib.hid BK0
 have HR:=Lib.hid hr
 clear hl hr1 BK0 hr
 gi_wp2_with fail
 gi_loopg [8] l.length (fun k s8 W=>∃ i:Nat,s8 = .int .i64 (i:Int) ∧ i ≤ l.length ∧ l.length ≤ k + i ∧ Below w.heap.size w W ∧ zeroO (l.drop i) m = some r)
 case atStart=>exact ⟨0,rfl,by omega,by omega,Below.refl _ _,HR.out⟩
 case round =>
  obtain ⟨i,rfl,hi,hk,hB,hany⟩:=hrel
  have HB:=Lib.hid hB
  have HA:=Lib.hid hany
  clear hB hany
  by_cases hil:i < l.length
  case neg =>
   have:i = l.length:=by omega
   subst this
   gi_wp2_with fail
   refine bodyPost_ret (v:=.int .i64 (-1)) (results_tmp (t:=4) rfl _ _ _) rfl ⟨-1,rfl,?_,HB.out⟩
   have ha:=HA.out
   rw [List.drop_length] at ha
   obtain rfl:=Option.some.inj ha
   simp
  have hI0:(0:Int) ≤ (i:Int):=by omega
  have hI1:(i:Int) < (l.length:Int):=by omega
  obtain ⟨ad,e0,hx⟩:=Kd.at_int HL.out (i:Int) hI0 hI1
  cases e0
  rw [Int.toNat_natCast] at hx
  have hcell:=(HB.out.cell (World.block_lt_of_cell? w _ hx)).trans hx
  obtain ⟨x,hxe⟩:∃ x,rd l (i:Int) = x:=⟨_,rfl⟩
  rw [hxe] at hcell
  have hxi:l[i] = x:=by rw [← hxe];unfold rd;simp [hil]
  have ha:=HA.out
  rw [List.drop_eq_getElem_cons hil,hxi,zeroO] at ha
  by_cases g:0 ≤ x ∧ x < (m.length:Int)
  case neg =>
   rw [if_neg g] at ha
   cases ha
  rw [if_pos g] at ha
  have HG:=Lib.hid ha
  have G0:=Lib.hid g.1
  have G1:=Lib.hid g.2
  clear hx hxe hxi HA ha g
  gi_wp2_with fail
  refine (callsIn_wide.2 (c81_any x A1 c1 m _ gb ((HB.out.block _ (block_lt HK.out)).trans HK.out) (Kd.C_below HM.out HB.out) G0.out G1.out)).mono ?_
  rintro e w1 ⟨rfl,hb1⟩
  have HB1:=Lib.hid hb1
  have hs:=HB.out.size
  obtain ⟨q,hq⟩:∃ q,decide (rd m x = 0) = q:=⟨_,rfl⟩
  rw [hq]
  have HQ:=Lib.hid hq
  clear hb1 hq
  cases q with
  | true =>
   gi_wp2_with fail
   refine bodyPost_ret (v:=.int .i64 (i:Int)) (results_tmp (t:=4) rfl _ _ _) rfl ⟨i,rfl,?_,HB.out.trans (HB1.out.mono hs)⟩
   have hg:=HG.out
   rw [if_pos (of_decide_eq_true HQ.out)] at hg
   obtain rfl:=Option.some.inj hg
   simp
  | false =>
   gi_wp2_with fail
   gi_roundg (l.length - (i + 1))
   case measure=>omega
   case rel =>
    refine ⟨i + 1,by simp,by omega,by omega,HB.out.trans (HB1.out.mono hs),?_⟩
    have hg:=HG.out
    rw [if_neg (of_decide_eq_false HQ.out)] at hg
    exact hg
def contains81.f (l0 l1:List Int):Option Bool:=if fitL l0 then zeroO l0 l1 else none
set_option maxHeartbeats 4000000 in
theorem contains81.calls (A0:Option Addr) (c0:Nat) (l0:List Int) (A1:Option Addr) (c1:Nat) (l1:List Int) (r:Bool) (w:World) (gb:Nat) (BK0:w.heap[gb]? = some (.cells #[.slice A1 l1.length c1] 28 (0,0))) (hr0:Kd.C (Kd.int .i64) w A0 l0.length l0) (_:l0.length ≤ c0) (hr1:Kd.C (Kd.int .i64) w A1 l1.length l1) (_:l1.length ≤ c1) (h:contains81.f l0 l1 = some r) :
  Calls Try.prog 80 #[.slice A0 l0.length c0,.func (.func 81) #[] #[.pointer (some ⟨gb,0,none⟩)]] w fun e w'=>e = .returned (.bool r) ∧ Below w.heap.size w w':=by
 unfold contains81.f at h
 by_cases hf:fitL l0
 case neg =>
  rw [if_neg hf] at h
  cases h
 rw [if_pos hf] at h
 refine (callsIn_wide (n:=9)).1 ?_
 refine callsIn_of_wp Try.func80 rfl trivial ?_
 simp only [Try.ntmps80,List.size_toArray,List.length_cons,List.length_nil,Nat.reduceAdd,Nat.reduceSub,Array.replicate_succ,Array.replicate_zero,List.push_toArray,List.append_toArray,List.nil_append,List.cons_append]
 have HI:=Lib.hid (index81 A0 c0 l0 A1 c1 l1 w gb BK0 hr1 hr0 r h hf)
 clear hr0 hr1 BK0 h
 gi_wp2_with fail
 refine (callsIn_wide.2 HI.out).mono ?_
 rintro e w1 ⟨i,rfl,hd,hb1⟩
 have HD:=Lib.hid hd
 have HB1:=Lib.hid hb1
 clear hd hb1
 gi_wp2_with fail
 refine bodyPost_ret (v:=.bool (decide (0 ≤ i))) (results_tmp (t:=4) rfl _ _ _) rfl ⟨by rw [HD.out],HB1.out⟩
end Go.Proofs.Ytjohcjfmlhihbaa.G
