/- Several texts, joined. -/
import Derived.Test.YthpahlkhiknofaaQOnce2
set_option linter.unusedVariables false
set_option linter.unusedSimpArgs false
set_option linter.unusedSectionVars false
namespace Go.Proofs.Ythpahlkhiknofaa.P
open Go Go.RowKit Go.Proofs.Ythpahlkhiknofaa.M Go.Proofs.Ythpahlkhiknofaa.G
open Go.Proofs.YthpahlkhiknofaaW.PrintWords Go.Proofs.YthpahlkhiknofaaW.PrintMore
theorem mod_some (x:Int) {n:Int} (h0:0 < n) (h1:n ≤ 9223372036854775807):∃ m,0 ≤ m ∧ m < n ∧ numnahlaw01_mod.f x n = some m:=by
  unfold numnahlaw01_mod.f
  have hn:IntKind.u64.wrap n = n:=by
    obtain ⟨k,rfl⟩:∃ k:Nat,n = (k:Int):=⟨n.toNat,by omega⟩
    exact wrap_u64_nat k (by omega)
  have hx:0 ≤ IntKind.u64.wrap x:=by
    simp only [IntKind.wrap,IntKind.bits,IntKind.signed]
    simp
    omega
  rw [hn,if_neg (by omega),Int.tmod_eq_emod_of_nonneg hx]
  have:=Int.emod_nonneg (IntKind.u64.wrap x) (show n ≠ 0 by omega)
  have:=Int.emod_lt_of_pos (IntKind.u64.wrap x) h0
  exact ⟨_,by omega,by omega,by rw [wrap_id (by omega) (by omega)]⟩
theorem bytes01:bt (⟨#[48,49,45]⟩:ByteArray) 0 = 48 ∧ bt (⟨#[48,49,45]⟩:ByteArray) 1 = 49:=by constructor <;> decide +kernel
theorem func_l0 (s:ByteArray) (hs:s.size ≤ 140737488351232) {n:Nat} (h1:1 ≤ n) (h5:n ≤ 5):∀ d i (x:List Int),i + d = 2 ^ n → x.length = i → (∀ y ∈ x,y = 48 ∨ y = 49) → ∃ z:List Int,z.length = 2 ^ n ∧ (∀ y ∈ z,y = 48 ∨ y = 49) ∧ Ev (fun k=>numnahlaw01_function.l0 k s (n:Int) 2 x (i:Int)) (strOfNums z):=by
  have h32:2 ^ n ≤ 2 ^ 5:=Nat.pow_le_pow_right (by decide) h5
  intro d
  induction d with
  | zero =>
    intro i x hi hx hv
    refine ⟨x,by omega,hv,Ev.step (f:=fun _=>some (strOfNums x)) (fun k=>?_) (Ev.now _)⟩
    rw [numnahlaw01_function.l0,if_pos (by omega),shl_one (by omega),if_neg (by omega)]
  | succ d ih =>
    intro i x hi hx hv
    have nx:∀ y:Int,(y = 48 ∨ y = 49) → ∃ z:List Int,z.length = 2 ^ n ∧ (∀ y ∈ z,y = 48 ∨ y = 49) ∧ Ev (fun k=>numnahlaw01_function.l0 k s (n:Int) 2 (x ++ [y]) ((i + 1:Nat):Int)) (strOfNums z):=fun y hy=>ih (i + 1) (x ++ [y]) (by omega) (by rw [List.length_append,hx];rfl) (fun a ha=>by
      rcases List.mem_append.1 ha with ha | ha
      · exact hv a ha
      · rw [List.mem_singleton.1 ha];exact hy)
    by_cases his:(i:Int) < (s.size:Int)
    · have hb:=bt_range s (i:Int)
      have hw:wrap64 (bt s (i:Int)) = bt s (i:Int):=wrap_id (by omega) (by omega)
      have ht:Int.tmod (bt s (i:Int)) 2 = bt s (i:Int) % 2:=Int.tmod_eq_emod_of_nonneg hb.1
      have hm:bt s (i:Int) % 2 = 0 ∨ bt s (i:Int) % 2 = 1:=by omega
      have st:∀ k,numnahlaw01_function.l0 (k + 1) s (n:Int) 2 x (i:Int) = numnahlaw01_function.l0 k s (n:Int) 2 (x ++ [bt (⟨#[48,49,45]⟩:ByteArray) (bt s (i:Int) % 2)]) ((i + 1:Nat):Int):=fun k=>by
        rw [numnahlaw01_function.l0,if_pos (by omega),shl_one (by omega),if_pos (by omega),if_pos his,if_pos (by omega),if_neg (by decide),hw,ht,if_pos (by omega),if_pos (by omega),if_pos (by omega),wrap_succ (by omega)]
      rcases hm with h | h
      · rw [h,bytes01.1] at st
        obtain ⟨z,z1,z2,z3⟩:=nx 48 (.inl rfl)
        exact ⟨z,z1,z2,Ev.step st z3⟩
      · rw [h,bytes01.2] at st
        obtain ⟨z,z1,z2,z3⟩:=nx 49 (.inr rfl)
        exact ⟨z,z1,z2,Ev.step st z3⟩
    · obtain ⟨z,z1,z2,z3⟩:=nx 48 (.inl rfl)
      refine ⟨z,z1,z2,Ev.step (fun k=>?_) z3⟩
      rw [numnahlaw01_function.l0,if_pos (by omega),shl_one (by omega),if_pos (by omega),if_neg his,if_pos (by decide),if_pos (by omega),bytes01.1,wrap_succ (by omega)]
theorem lg_pow {n:Nat} (h1:1 ≤ n) (h5:n ≤ 5):lg (2 ^ n) = n:=by
  rcases (by omega:n = 1 ∨ n = 2 ∨ n = 3 ∨ n = 4 ∨ n = 5) with rfl | rfl | rfl | rfl | rfl <;> decide
/-- A string of the right size with these two characters is a total function. -/
theorem mk_tot {c:ByteArray} {n:Nat} (h1:1 ≤ n) (h5:n ≤ 5) (hs:c.size = 2 ^ n) (hv:∀ p,p < c.size → bt c (p:Int) = 48 ∨ bt c (p:Int) = 49):totB c = true ∧ fnN c = n ∧ c.size ≤ 40:=by
  have h32:2 ^ n ≤ 2 ^ 5:=Nat.pow_le_pow_right (by decide) h5
  have ho:okC c = true:=(allF_iff _ _ _).2 fun j _ hj=>by
    unfold isC
    have:=hv j (by omega)
    exact decide_eq_true (by omega)
  have hf:fnN c = n:=by
    unfold fnN
    rw [if_pos ho,hs,lg_pow h1 h5]
  refine ⟨?_,hf,by omega⟩
  unfold totB
  rw [hf,decide_eq_true (by omega),Bool.true_and]
  exact (allF_iff _ _ _).2 fun j _ hj=>by
    have:=hv j (by omega)
    exact decide_eq_true (by omega)
theorem ev_function (s:ByteArray) (hs:s.size ≤ 140737488351232) {n:Nat} (h1:1 ≤ n) (h5:n ≤ 5):∃ c:ByteArray,totB c = true ∧ fnN c = n ∧ c.size ≤ 40 ∧ c.size = 2 ^ n ∧ Ev (fun k=>numnahlaw01_function.f k s (n:Int) 2) c:=by
  obtain ⟨z,z1,z2,z3⟩:=func_l0 s hs h1 h5 (2 ^ n) 0 [] (by omega) rfl (fun y hy=>by cases hy)
  have hsz:(strOfNums z).size = 2 ^ n:=by rw [str_size,z1]
  obtain ⟨a,b,d⟩:=mk_tot h1 h5 hsz fun p hp=>by
    have hp':p < z.length:=by rw [hsz] at hp;omega
    have:=z2 _ (List.getElem_mem hp')
    rw [str_bt hp' (by omega) (by omega)]
    exact this
  exact ⟨_,a,b,d,hsz,z3⟩
end Go.Proofs.Ythpahlkhiknofaa.P
namespace Go.Proofs.Ythpahlkhiknofaa.G
open Go.RowKit Go.Proofs.YthpahlkhiknofaaW.PrintWords Go.Proofs.YthpahlkhiknofaaW.PrintLast Go.Proofs.YthpahlkhiknofaaW.PrintMore
set_option maxHeartbeats 8000000
set_option maxRecDepth 100000
attribute [local go_sem] max2_int min2_int max_two min_two max_three min_three max_four min_four   -- for this text's walks alone
def numnahlaw01_at.f (l0:List Int) (a1:Int):Option (Int):=if a1 < (l0.length:Int) then (if 0 ≤ a1 then (some (rd l0 a1)) else (none)) else (some 0)
theorem numnahlaw01_at.calls (A0:Option Addr) (c0:Nat) (l0:List Int) (a1:Int) (r:Int) (w:World) (hr0:Kd.C (Kd.int .i64) w A0 l0.length l0) (hc0:l0.length ≤ c0) (h:numnahlaw01_at.f l0 a1 = some r) :
  Calls Try.prog 45 #[.slice A0 l0.length c0,.int .i64 a1] w fun e w'=>e = .returned (.int .i64 r) ∧ Drawn0 w w':=by
 have HR0:=Aside0.mk hr0
 have HC0:=Aside0.mk hc0
 clear hr0 hc0
 have H:(if a1 < (l0.length:Int) then (if 0 ≤ a1 then (some (rd l0 a1)) else (none)) else (some 0)) = some r:=h
 clear h
 by_cases c3:a1 < (l0.length:Int)
 case neg =>
  rw [if_neg c3] at H
  have c3b0:decide (a1 < (l0.length:Int)) = false:=decide_eq_false c3
  clear c3
  obtain rfl:=Option.some.inj H
  go_enter Try.func45,Try.ntmps45
  go_wp2
  go_ret
  exact ⟨by first | rfl | (simp;done) | (simp [*];done),by repeat (first | exact Drawn0.refl _ | apply Drawn0.step)⟩
 rw [if_pos c3] at H
 have c3b0:decide (a1 < (l0.length:Int)) = true:=decide_eq_true c3
 clear c3
 by_cases c4:0 ≤ a1
 case neg =>
  rw [if_neg c4] at H
  exact absurd H (by simp)
 rw [if_pos c4] at H
 have c4b0:decide (0 ≤ a1) = true:=decide_eq_true c4
 clear c4
 obtain rfl:=Option.some.inj H
 have p399:0 ≤ (a1:Int):=of_decide_eq_true (by first | (with_reducible assumption) | assumption)
 have q399:a1 < (l0.length:Int):=of_decide_eq_true (by first | (with_reducible assumption) | assumption)
 obtain ⟨ad399,e399,hx399_0⟩:=Kd.at_int HR0.out a1 p399 q399
 cases e399
 replace p399:=eq_true p399
 replace q399:=eq_true q399
 go_enter Try.func45,Try.ntmps45
 go_wp2
 go_ret
 exact ⟨by first | rfl | (simp;done) | (simp [*];done),by repeat (first | exact Drawn0.refl _ | apply Drawn0.step)⟩
noncomputable def numnahlaw01_CardOnce.l0:Nat → Int → List Int → List (List Int) → ByteArray → List Int → Int → Option (Bool)
 | 0,_,_,_,_,_,_=>none
 | k + 1,x0,x2,x3,x9,x10,x11=>if x11 ≤ x0 then ((numnahlaw01_at.f x2 x11).bind fun t402=>((numnahlaw01_mod.f t402 41).bind fun t403=>(if x10.length < 17592186044416 then (numnahlaw01_CardOnce.l0 k x0 x2 x3 x9 (x10 ++ [wrap64 (t403 - 20)]) (wrap64 (x11 + 1))) else (none)))) else ((card_Weights.f x9).bind fun bt407=>((card_Realize.f x9 x10).bind fun t414=>((numnahlaw01_lists.f k x3).bind fun t415=>((card_Balance.f x9 t415).bind fun t418=>(if bt407.2.2 = 0 then (if (((bt407.1.length:Int) == 0) == ((bt407.2.1.length:Int) == 0)) = true then (some false) else (if t414 = 0 then (if t418 = 0 then (some false) else (if (bt407.1.length:Int) = 0 then (some false) else ((numnahlaw01_awake.f).bind fun t419=>(some t419)))) else (if t418 = 0 then (if (bt407.2.1.length:Int) > 0 then ((numnahlaw01_awake.f).bind fun t420=>(some t420)) else (some false)) else ((numnahlaw01_awake.f).bind fun t421=>(some t421))))) else (some false))))))
noncomputable def numnahlaw01_CardOnce.f (k:Nat) (a0:Int) (a1:ByteArray) (l2:List Int) (l3:List (List Int)):Option (Bool):=(numnahlaw01_mod.f a0 5).bind fun t400=>((numnahlaw01_function.f k a1 (wrap64 (1 + t400)) 2).bind fun t401=>(numnahlaw01_CardOnce.l0 k (wrap64 (1 + t400)) l2 l3 t401 ([]:List Int) 0))
theorem numnahlaw01_CardOnce.mono_l:∀ k,(∀ y0 y1 y2 y3 y4 y5,LeO (numnahlaw01_CardOnce.l0 k y0 y1 y2 y3 y4 y5) (numnahlaw01_CardOnce.l0 (k + 1) y0 y1 y2 y3 y4 y5))
 | 0=>fun _ _ _ _ _ _ r h=>by simp [numnahlaw01_CardOnce.l0] at h
 | k + 1=>by
  have ih0:=numnahlaw01_CardOnce.mono_l k
  intro y0 y1 y2 y3 y4 y5
  unfold numnahlaw01_CardOnce.l0
  repeat' first
  | (with_reducible exact ih0 _ _ _ _ _ _)
  | (with_reducible exact numnahlaw01_function.mono _ _ _ _)
  | (with_reducible exact numnahlaw01_lists.mono _ _)
  | (with_reducible exact LeO.refl _)
  | (with_reducible exact LeO.none _)
  | (with_reducible refine LeO.ite ?_ ?_)
  | (with_reducible refine LeO.bind ?_ (fun _=>?_))
  | exact ih0 _ _ _ _ _ _
  | exact numnahlaw01_function.mono _ _ _ _
  | exact numnahlaw01_lists.mono _ _
  | exact LeO.none _
  | refine LeO.ite ?_ ?_
  | refine LeO.bind ?_ (fun _=>?_)
theorem numnahlaw01_CardOnce.mono:∀ a0 a1 a2 a3 k,LeO (numnahlaw01_CardOnce.f k a0 a1 a2 a3) (numnahlaw01_CardOnce.f (k + 1) a0 a1 a2 a3):=by
 intro a0 a1 a2 a3 k
 have ih0:=numnahlaw01_CardOnce.mono_l k
 unfold numnahlaw01_CardOnce.f
 repeat' first
   | (with_reducible exact ih0 _ _ _ _ _ _)
   | (with_reducible exact numnahlaw01_function.mono _ _ _ _)
   | (with_reducible exact numnahlaw01_lists.mono _ _)
   | (with_reducible exact LeO.refl _)
   | (with_reducible exact LeO.none _)
   | (with_reducible refine LeO.ite ?_ ?_)
   | (with_reducible refine LeO.bind ?_ (fun _=>?_))
   | exact ih0 _ _ _ _ _ _
   | exact numnahlaw01_function.mono _ _ _ _
   | exact numnahlaw01_lists.mono _ _
   | exact LeO.none _
   | refine LeO.ite ?_ ?_
   | refine LeO.bind ?_ (fun _=>?_)
theorem numnahlaw01_CardOnce.calls (k:Nat) (a0:Int) (a1:ByteArray) (A2:Option Addr) (c2:Nat) (l2:List Int) (A3:Option Addr) (c3:Nat) (l3:List (List Int)) (r:Bool) (w:World) (hr2:Kd.C (Kd.int .i64) w A2 l2.length l2) (hc2:l2.length ≤ c2) (hr3:Kd.C (Kd.slice 3 (Kd.int .i64)) w A3 l3.length l3) (hc3:l3.length ≤ c3) (h:numnahlaw01_CardOnce.f k a0 a1 l2 l3 = some r) :
  Calls Try.prog 9 #[.int .i64 a0,.string a1,.slice A2 l2.length c2,.slice A3 l3.length c3] w fun e w'=>e = .returned (.bool r) ∧ Below w.heap.size w w':=by
 have HR2:=Aside0.mk hr2
 have HC2:=Aside0.mk hc2
 clear hr2 hc2
 have HR3:=Aside0.mk hr3
 have HC3:=Aside0.mk hc3
 clear hr3 hc3
 have HB:=Aside0.mk (Below.refl w.heap.size w)
 have H:((numnahlaw01_mod.f a0 5).bind fun t400=>((numnahlaw01_function.f k a1 (wrap64 (1 + t400)) 2).bind fun t401=>(numnahlaw01_CardOnce.l0 k (wrap64 (1 + t400)) l2 l3 t401 ([]:List Int) 0))) = some r:=h
 clear h
 replace H:=Option.bind_eq_some_iff.mp H
 obtain ⟨t400,A50,H⟩:=H
 replace H:((numnahlaw01_function.f k a1 (wrap64 (1 + t400)) 2).bind fun t401=>(numnahlaw01_CardOnce.l0 k (wrap64 (1 + t400)) l2 l3 t401 ([]:List Int) 0)) = some r:=H
 have A5:=Aside0.mk A50
 clear A50
 replace H:=Option.bind_eq_some_iff.mp H
 obtain ⟨t401,A60,H⟩:=H
 replace H:(numnahlaw01_CardOnce.l0 k (wrap64 (1 + t400)) l2 l3 t401 ([]:List Int) 0) = some r:=H
 have A6:=Aside0.mk A60
 clear A60
 have H':=Aside0.mk H
 clear H
 go_enter Try.func9,Try.ntmps9
 go_wp2_with (first | ((with_reducible refine gate_callee (f:=27) rfl ?_);refine goesL_ (some 18) rfl rfl Try.func27 (by kernel_rfl) rfl #[.int .i64 a0,.int .i64 5] rfl (by (try simp only [List.map_toArray,List.map_cons,List.map_nil]);first | done | rfl | (simp only [List.length_drop,List.length_take];rfl)) ?_;(with_reducible refine (numnahlaw01_mod.calls a0 5 t400 _ A5.out).mono ?_);rintro e w' ⟨rfl,⟨nd,rfl⟩⟩;refine ⟨_,rfl,?_⟩) | ((with_reducible refine gate_callee (f:=28) rfl ?_);refine goesL_ (some 22) rfl rfl Try.func28 (by kernel_rfl) rfl #[.string a1,.int .i64 (wrap64 (1 + t400)),.int .i64 2] rfl (by (try simp only [List.map_toArray,List.map_cons,List.map_nil]);first | done | rfl | (simp only [List.length_drop,List.length_take];rfl)) ?_;(with_reducible refine (numnahlaw01_function.calls k a1 (wrap64 (1 + t400)) 2 t401 _ A6.out).mono ?_);rintro e w7 ⟨rfl,hb⟩;refine ⟨_,rfl,?_⟩;have n0_:=Aside0.mk (below_step (by repeat (first | (with_reducible first | exact HB.out | apply below_alloc | apply pw_below_drewN | apply below_drew1) | exact HB.out)) hb);clear HB;have HB:=n0_;clear n0_;(try clear hb)))
 go_loopg [10,11] k (fun kq v10 v11 w'=>∃ (x10_1:List Int) (x11_1:Int),v11 = .int .i64 x11_1 ∧ Aside0 (numnahlaw01_CardOnce.l0 kq (wrap64 (1 + t400)) l2 l3 t401 x10_1 x11_1 = some r) ∧ Aside0 (kq ≤ k) ∧ Aside0 (Kd.R (Kd.int .i64) 3 w' w.heap.size (fun _=>True) v10 x10_1) ∧ Aside0 (Below w.heap.size w w'))
 case atStart=>exact ⟨(([]:List Int)),(0),(by first | rfl | (simp;done) | (simp [*];done)),H',⟨Nat.le_refl _⟩,⟨by first | exact Kd.R_nil _ _ _ _ _ | exact Kd.N_nil _ _ _ _ _ | exact Kd.V_nil _ _ _ _ _ | exact Kd.Q_nil _ _ _ _ _ | exact Kd.S_nil _ _ _ _ _⟩,⟨by repeat (first | (with_reducible first | exact HB.out | apply below_alloc | apply pw_below_drewN | apply below_drew1) | exact HB.out)⟩⟩
 case round =>
  clear H'
  try clear c2
  try clear p2
  try clear c3
  try clear p6
  obtain ⟨x10_1,x11_1,rfl,HA,HK1,HO_10,HB⟩:=hrel
  cases gk with
  | zero=>exact absurd HA.out (by simp [numnahlaw01_CardOnce.l0])
  | succ k1 =>
   have H:=HA.out
   clear HA
   simp only [numnahlaw01_CardOnce.l0] at H
   by_cases c8:x11_1 ≤ (wrap64 (1 + t400))
   ·rw [if_pos c8] at H
    have c8b0:decide (x11_1 ≤ (wrap64 (1 + t400))) = true:=decide_eq_true c8
    clear c8
    replace H:=Option.bind_eq_some_iff.mp H
    obtain ⟨t402,A90,H⟩:=H
    replace H:((numnahlaw01_mod.f t402 41).bind fun t403=>(if x10_1.length < 17592186044416 then (numnahlaw01_CardOnce.l0 k1 (wrap64 (1 + t400)) l2 l3 t401 (x10_1 ++ [wrap64 (t403 - 20)]) (wrap64 (x11_1 + 1))) else (none))) = some r:=H
    have A9:=Aside0.mk A90
    clear A90
    replace H:=Option.bind_eq_some_iff.mp H
    obtain ⟨t403,A100,H⟩:=H
    replace H:(if x10_1.length < 17592186044416 then (numnahlaw01_CardOnce.l0 k1 (wrap64 (1 + t400)) l2 l3 t401 (x10_1 ++ [wrap64 (t403 - 20)]) (wrap64 (x11_1 + 1))) else (none)) = some r:=H
    have A10:=Aside0.mk A100
    clear A100
    by_cases c11:x10_1.length < 17592186044416
    case neg =>
     rw [if_neg c11] at H
     exact absurd H (by simp)
    rw [if_pos c11] at H
    have LMc11:=Aside0.mk c11
    clear c11
    obtain ⟨y404,hy404⟩:∃ y_:List Int,y_ = (x10_1 ++ [wrap64 (t403 - 20)]):=⟨_,rfl⟩
    replace H:(numnahlaw01_CardOnce.l0 k1 (wrap64 (1 + t400)) l2 l3 t401 y404 (wrap64 (x11_1 + 1))) = some r:=by first | (rw [hy404];with_reducible exact H) | (have H2_:=(Option.bind_some _ _).symm.trans H;rw [hy404];with_reducible exact H2_) | (have H2_:=(Option.bind_some _ _).symm.trans H;with_reducible exact H2_) | with_reducible exact H | (rw [hy404];exact H) | exact H
    have Ny404:=Aside0.mk hy404
    clear hy404
    have H':=Aside0.mk H
    clear H
    go_wp2_with (first | ((with_reducible refine gate_callee (f:=45) rfl ?_);refine goesL_ (some 31) rfl rfl Try.func45 (by kernel_rfl) rfl #[.slice A2 l2.length c2,.int .i64 x11_1] rfl (by (try simp only [List.map_toArray,List.map_cons,List.map_nil]);first | done | rfl | (simp only [List.length_drop,List.length_take];rfl)) ?_;(with_reducible refine (numnahlaw01_at.calls _ _ l2 x11_1 t402 _ ?side1 ?side2 A9.out).mono ?_);(case side1=>repeat (first | exact (Kd.C_below HR2.out HB.out) | (with_reducible refine Kd.C_alloc ?_ _) | (with_reducible refine Kd.C_drewN ?_ _) | (with_reducible refine Kd.C_drew ?_)));(case side2=>exact HC2.out);rintro e w' ⟨rfl,⟨nd,rfl⟩⟩;refine ⟨_,rfl,?_⟩) | ((with_reducible refine gate_callee (f:=27) rfl ?_);refine goesL_ (some 32) rfl rfl Try.func27 (by kernel_rfl) rfl #[.int .i64 t402,.int .i64 41] rfl (by (try simp only [List.map_toArray,List.map_cons,List.map_nil]);first | done | rfl | (simp only [List.length_drop,List.length_take];rfl)) ?_;(with_reducible refine (numnahlaw01_mod.calls t402 41 t403 _ A10.out).mono ?_);rintro e w' ⟨rfl,⟨nd,rfl⟩⟩;refine ⟨_,rfl,?_⟩) | ((with_reducible refine gate_builtin (b:=.append) (xs:=#[.tmp 28,.tmp 34]) rfl ?_);(try (refine gate_guard (by rfl) ?_;dsimp only));at_builtin;refine Kd.R_append (Kd.int .i64) (w0:=w) w.heap.size rfl (.tmp 28) (.tmp 34) 22 3 (.int .i64 0) 8 rfl Try.underlying22 info3 rfl (by decide) (by omega) u10 x10_1 (wrap64 (t403 - 20)) [.int .i64 (wrap64 (t403 - 20))] (fun _=>True) (fun _=>False) rfl rfl ?aP (fun _ hk=>hk.elim) ?aF ?aO ?aB ?aS ?aL ?_;(case aP=>exact rfl);(case aB=>exact (by repeat (first | (with_reducible first | exact HB.out | apply below_alloc | apply pw_below_drewN | apply below_drew1) | exact HB.out)));(case aF=>exact (fun _ _=>trivial));(case aO=>exact (by (with_reducible repeat (first | apply Kd.R_alloc | apply Kd.R_drewN | apply Kd.R_drew));exact HO_10.out));(case aS=>exact (below_size (by repeat (first | (with_reducible first | exact HB.out | apply below_alloc | apply pw_below_drewN | apply below_drew1) | exact HB.out))));(case aL=>have:=LMc11.out;omega);intro v405 w12 ho hb hg hat;rw [← Ny404.out] at ho;have n0_:=Aside0.mk (hb);have n1_:=Aside0.mk (ho);clear HB;clear HO_10;have HB:=n0_;have HO406:=n1_;clear n0_ n1_;clear ho hb hg hat))
    go_roundg k1
    case measure=>have:=HK1.out;omega
    case rel=>exact ⟨(y404),(wrap64 (x11_1 + 1)),(by first | rfl | (simp;done) | (simp [*];done)),H',⟨by have:=HK1.out;omega⟩,⟨by (with_reducible repeat (first | apply Kd.R_alloc | apply Kd.R_drewN | apply Kd.R_drew));exact HO406.out⟩,⟨by repeat (first | (with_reducible first | exact HB.out | apply below_alloc | apply pw_below_drewN | apply below_drew1) | exact HB.out)⟩⟩
   rw [if_neg c8] at H
   have c8b0:decide (x11_1 ≤ (wrap64 (1 + t400))) = false:=decide_eq_false c8
   clear c8
   replace H:=Option.bind_eq_some_iff.mp H
   obtain ⟨⟨t407,t408,t409⟩,A130,H⟩:=H
   replace H:((card_Realize.f t401 x10_1).bind fun t414=>((numnahlaw01_lists.f k1 l3).bind fun t415=>((card_Balance.f t401 t415).bind fun t418=>(if t409 = 0 then (if (((t407.length:Int) == 0) == ((t408.length:Int) == 0)) = true then (some false) else (if t414 = 0 then (if t418 = 0 then (some false) else (if (t407.length:Int) = 0 then (some false) else ((numnahlaw01_awake.f).bind fun t419=>(some t419)))) else (if t418 = 0 then (if (t408.length:Int) > 0 then ((numnahlaw01_awake.f).bind fun t420=>(some t420)) else (some false)) else ((numnahlaw01_awake.f).bind fun t421=>(some t421))))) else (some false))))) = some r:=H
   have A13:=Aside0.mk A130
   clear A130
   replace H:=Option.bind_eq_some_iff.mp H
   obtain ⟨t414,A140,H⟩:=H
   replace H:((numnahlaw01_lists.f k1 l3).bind fun t415=>((card_Balance.f t401 t415).bind fun t418=>(if t409 = 0 then (if (((t407.length:Int) == 0) == ((t408.length:Int) == 0)) = true then (some false) else (if t414 = 0 then (if t418 = 0 then (some false) else (if (t407.length:Int) = 0 then (some false) else ((numnahlaw01_awake.f).bind fun t419=>(some t419)))) else (if t418 = 0 then (if (t408.length:Int) > 0 then ((numnahlaw01_awake.f).bind fun t420=>(some t420)) else (some false)) else ((numnahlaw01_awake.f).bind fun t421=>(some t421))))) else (some false)))) = some r:=H
   have A14:=Aside0.mk A140
   clear A140
   replace H:=Option.bind_eq_some_iff.mp H
   obtain ⟨t415,A150,H⟩:=H
   replace H:((card_Balance.f t401 t415).bind fun t418=>(if t409 = 0 then (if (((t407.length:Int) == 0) == ((t408.length:Int) == 0)) = true then (some false) else (if t414 = 0 then (if t418 = 0 then (some false) else (if (t407.length:Int) = 0 then (some false) else ((numnahlaw01_awake.f).bind fun t419=>(some t419)))) else (if t418 = 0 then (if (t408.length:Int) > 0 then ((numnahlaw01_awake.f).bind fun t420=>(some t420)) else (some false)) else ((numnahlaw01_awake.f).bind fun t421=>(some t421))))) else (some false))) = some r:=H
   have A15:=Aside0.mk A150
   clear A150
   replace H:=Option.bind_eq_some_iff.mp H
   obtain ⟨t418,A160,H⟩:=H
   replace H:(if t409 = 0 then (if (((t407.length:Int) == 0) == ((t408.length:Int) == 0)) = true then (some false) else (if t414 = 0 then (if t418 = 0 then (some false) else (if (t407.length:Int) = 0 then (some false) else ((numnahlaw01_awake.f).bind fun t419=>(some t419)))) else (if t418 = 0 then (if (t408.length:Int) > 0 then ((numnahlaw01_awake.f).bind fun t420=>(some t420)) else (some false)) else ((numnahlaw01_awake.f).bind fun t421=>(some t421))))) else (some false)) = some r:=H
   have A16:=Aside0.mk A160
   clear A160
   by_cases c17:t409 = 0
   case neg =>
    rw [if_neg c17] at H
    have c17b0:(t409 == 0) = false:=beq_eq_false_iff_ne.mpr c17
    have c17b1:(t409 != 0) = true:=bne_iff_ne.mpr c17
    obtain rfl:=Option.some.inj H
    go_wp2_with (first | ((with_reducible refine gate_callee (f:=44) rfl ?_);refine goesL_ (some 38) rfl rfl Try.func44 (by kernel_rfl) rfl #[.string t401] rfl (by (try simp only [List.map_toArray,List.map_cons,List.map_nil]);first | done | rfl | (simp only [List.length_drop,List.length_take];rfl)) ?_;(with_reducible refine (card_Weights.calls t401 t407 t408 t409 _ A13.out).mono ?_);rintro e w86 ⟨v410,v412,rfl,ho0,ho1,hb⟩;refine ⟨_,rfl,?_⟩;have n0_:=Aside0.mk (Kd.R_elder' (by (with_reducible repeat (first | apply Kd.R_alloc | apply Kd.R_drewN | apply Kd.R_drew));exact HO_10.out) (Kd.R_base ho0) hb);have n1_:=Aside0.mk (Kd.R_lower (Kd.R_new' ho0 (Kd.R_lt (by (with_reducible repeat (first | apply Kd.R_alloc | apply Kd.R_drewN | apply Kd.R_drew));exact HO_10.out))) (below_size (by repeat (first | (with_reducible first | exact HB.out | apply below_alloc | apply pw_below_drewN | apply below_drew1) | exact HB.out))));have n2_:=Aside0.mk (Kd.S_lower (Kd.S_new' ho1 (Kd.R_lt (by (with_reducible repeat (first | apply Kd.R_alloc | apply Kd.R_drewN | apply Kd.R_drew));exact HO_10.out))) (below_size (by repeat (first | (with_reducible first | exact HB.out | apply below_alloc | apply pw_below_drewN | apply below_drew1) | exact HB.out))));have n3_:=Aside0.mk (below_step (by repeat (first | (with_reducible first | exact HB.out | apply below_alloc | apply pw_below_drewN | apply below_drew1) | exact HB.out)) hb);clear HO_10;clear HB;have HO_10:=n0_;have HO411:=n1_;have HO413:=n2_;have HB:=n3_;clear n0_ n1_ n2_ n3_;(try clear hb);(try clear ho0);(try clear ho1);obtain ⟨Ao87,co87,eo87⟩:=Kd.R_slice HO_10.out;subst eo87) | ((with_reducible refine gate_callee (f:=19) rfl ?_);refine goesL_ (some 44) rfl rfl Try.func19 (by kernel_rfl) rfl #[.string t401,.slice Ao87 x10_1.length co87] rfl (by (try simp only [List.map_toArray,List.map_cons,List.map_nil]);first | done | rfl | (simp only [List.length_drop,List.length_take];rfl)) ?_;(with_reducible refine (card_Realize.calls t401 _ _ x10_1 t414 _ ?side1 ?side2 A14.out).mono ?_);(case side1=>repeat (first | exact (Kd.R_reads' HO_10.out).2.2 | (with_reducible refine Kd.C_alloc ?_ _) | (with_reducible refine Kd.C_drewN ?_ _) | (with_reducible refine Kd.C_drew ?_)));(case side2=>exact (Kd.R_reads' HO_10.out).2.1);rintro e w88 ⟨rfl,hb⟩;refine ⟨_,rfl,?_⟩;have n0_:=Aside0.mk (Kd.R_below (by (with_reducible repeat (first | apply Kd.R_alloc | apply Kd.R_drewN | apply Kd.R_drew));exact HO_10.out) hb);have n1_:=Aside0.mk (Kd.R_below (by (with_reducible repeat (first | apply Kd.R_alloc | apply Kd.R_drewN | apply Kd.R_drew));exact HO411.out) hb);have n2_:=Aside0.mk (Kd.S_below (by (with_reducible repeat (first | apply Kd.S_alloc | apply Kd.S_drewN | apply Kd.S_drew));exact HO413.out) hb);have n3_:=Aside0.mk (below_step (by repeat (first | (with_reducible first | exact HB.out | apply below_alloc | apply pw_below_drewN | apply below_drew1) | exact HB.out)) hb);clear HO_10;clear HO411;clear HO413;clear HB;have HO_10:=n0_;have HO411:=n1_;have HO413:=n2_;have HB:=n3_;clear n0_ n1_ n2_ n3_;(try clear hb)) | ((with_reducible refine gate_callee (f:=18) rfl ?_);refine goesL_ (some 47) rfl rfl Try.func18 (by kernel_rfl) rfl #[.slice A3 l3.length c3] rfl (by (try simp only [List.map_toArray,List.map_cons,List.map_nil]);first | done | rfl | (simp only [List.length_drop,List.length_take];rfl)) ?_;(with_reducible refine (numnahlaw01_lists.calls k1 _ _ l3 t415 _ ?side1 ?side2 A15.out).mono ?_);(case side1=>repeat (first | exact (Kd.C_below HR3.out HB.out) | (with_reducible refine Kd.C_alloc ?_ _) | (with_reducible refine Kd.C_drewN ?_ _) | (with_reducible refine Kd.C_drew ?_)));(case side2=>exact HC3.out);rintro e w89 ⟨v416,rfl,ho0,hb⟩;refine ⟨_,rfl,?_⟩;have n0_:=Aside0.mk (Kd.R_below (by (with_reducible repeat (first | apply Kd.R_alloc | apply Kd.R_drewN | apply Kd.R_drew));exact HO_10.out) hb);have n1_:=Aside0.mk (Kd.R_below (by (with_reducible repeat (first | apply Kd.R_alloc | apply Kd.R_drewN | apply Kd.R_drew));exact HO411.out) hb);have n2_:=Aside0.mk (Kd.S_elder' (by (with_reducible repeat (first | apply Kd.S_alloc | apply Kd.S_drewN | apply Kd.S_drew));exact HO413.out) (Kd.S_base ho0) hb);have n3_:=Aside0.mk (Kd.S_lower (Kd.S_new' (Kd.S_new' (Kd.S_new' ho0 (Kd.R_lt (by (with_reducible repeat (first | apply Kd.R_alloc | apply Kd.R_drewN | apply Kd.R_drew));exact HO_10.out))) (Kd.R_lt (by (with_reducible repeat (first | apply Kd.R_alloc | apply Kd.R_drewN | apply Kd.R_drew));exact HO411.out))) (Kd.S_lt (by (with_reducible repeat (first | apply Kd.S_alloc | apply Kd.S_drewN | apply Kd.S_drew));exact HO413.out))) (below_size (by repeat (first | (with_reducible first | exact HB.out | apply below_alloc | apply pw_below_drewN | apply below_drew1) | exact HB.out))));have n4_:=Aside0.mk (below_step (by repeat (first | (with_reducible first | exact HB.out | apply below_alloc | apply pw_below_drewN | apply below_drew1) | exact HB.out)) hb);clear HO_10;clear HO411;clear HO413;clear HB;have HO_10:=n0_;have HO411:=n1_;have HO413:=n2_;have HO417:=n3_;have HB:=n4_;clear n0_ n1_ n2_ n3_ n4_;(try clear hb);(try clear ho0);obtain ⟨Ao90,co90,eo90⟩:=Kd.S_slice HO417.out;subst eo90) | ((with_reducible refine gate_callee (f:=20) rfl ?_);refine goesL_ (some 48) rfl rfl Try.func20 (by kernel_rfl) rfl #[.string t401,.slice Ao90 t415.length co90] rfl (by (try simp only [List.map_toArray,List.map_cons,List.map_nil]);first | done | rfl | (simp only [List.length_drop,List.length_take];rfl)) ?_;(with_reducible refine (card_Balance.calls t401 _ _ t415 t418 _ ?side1 ?side2 A16.out).mono ?_);(case side1=>repeat (first | exact (Kd.S_reads' HO417.out).2.2 | (with_reducible refine Kd.C_alloc ?_ _) | (with_reducible refine Kd.C_drewN ?_ _) | (with_reducible refine Kd.C_drew ?_)));(case side2=>exact (Kd.S_reads' HO417.out).2.1);rintro e w91 ⟨rfl,hb⟩;refine ⟨_,rfl,?_⟩;have n0_:=Aside0.mk (Kd.R_below (by (with_reducible repeat (first | apply Kd.R_alloc | apply Kd.R_drewN | apply Kd.R_drew));exact HO_10.out) hb);have n1_:=Aside0.mk (Kd.R_below (by (with_reducible repeat (first | apply Kd.R_alloc | apply Kd.R_drewN | apply Kd.R_drew));exact HO411.out) hb);have n2_:=Aside0.mk (Kd.S_below (by (with_reducible repeat (first | apply Kd.S_alloc | apply Kd.S_drewN | apply Kd.S_drew));exact HO413.out) hb);have n3_:=Aside0.mk (Kd.S_below (by (with_reducible repeat (first | apply Kd.S_alloc | apply Kd.S_drewN | apply Kd.S_drew));exact HO417.out) hb);have n4_:=Aside0.mk (below_step (by repeat (first | (with_reducible first | exact HB.out | apply below_alloc | apply pw_below_drewN | apply below_drew1) | exact HB.out)) hb);clear HO_10;clear HO411;clear HO413;clear HO417;clear HB;have HO_10:=n0_;have HO411:=n1_;have HO413:=n2_;have HO417:=n3_;have HB:=n4_;clear n0_ n1_ n2_ n3_ n4_;(try clear hb)))
    go_ret
    exact ⟨by first | rfl | (simp [errW_none,errW_some] <;> rfl) | (simp [*,errW_none,errW_some] <;> rfl),by repeat (first | (with_reducible first | exact HB.out | apply below_alloc | apply pw_below_drewN | apply below_drew1) | exact HB.out)⟩
   rw [if_pos c17] at H
   have c17b0:(t409 == 0) = true:=beq_iff_eq.mpr c17
   have c17b1:(t409 != 0) = false:=bne_eq_false_iff_eq.mpr c17
   clear c17
   by_cases c18:(((t407.length:Int) == 0) == ((t408.length:Int) == 0)) = true
   ·rw [if_pos c18] at H
    have c18b0:(((t407.length:Int) == 0) == ((t408.length:Int) == 0)) = true:=c18
    (try (have c18b1:decide (((t407.length:Int) == 0) = ((t408.length:Int) == 0)) = true:=by simpa using c18))
    (try (have c18b2:(((t407.length:Int) == 0) == ((t408.length:Int) == 0)) = true:=by simpa using c18))
    clear c18
    obtain rfl:=Option.some.inj H
    go_wp2_with (first | ((with_reducible refine gate_callee (f:=44) rfl ?_);refine goesL_ (some 38) rfl rfl Try.func44 (by kernel_rfl) rfl #[.string t401] rfl (by (try simp only [List.map_toArray,List.map_cons,List.map_nil]);first | done | rfl | (simp only [List.length_drop,List.length_take];rfl)) ?_;(with_reducible refine (card_Weights.calls t401 t407 t408 t409 _ A13.out).mono ?_);rintro e w19 ⟨v410,v412,rfl,ho0,ho1,hb⟩;refine ⟨_,rfl,?_⟩;have n0_:=Aside0.mk (Kd.R_elder' (by (with_reducible repeat (first | apply Kd.R_alloc | apply Kd.R_drewN | apply Kd.R_drew));exact HO_10.out) (Kd.R_base ho0) hb);have n1_:=Aside0.mk (Kd.R_lower (Kd.R_new' ho0 (Kd.R_lt (by (with_reducible repeat (first | apply Kd.R_alloc | apply Kd.R_drewN | apply Kd.R_drew));exact HO_10.out))) (below_size (by repeat (first | (with_reducible first | exact HB.out | apply below_alloc | apply pw_below_drewN | apply below_drew1) | exact HB.out))));have n2_:=Aside0.mk (Kd.S_lower (Kd.S_new' ho1 (Kd.R_lt (by (with_reducible repeat (first | apply Kd.R_alloc | apply Kd.R_drewN | apply Kd.R_drew));exact HO_10.out))) (below_size (by repeat (first | (with_reducible first | exact HB.out | apply below_alloc | apply pw_below_drewN | apply below_drew1) | exact HB.out))));have n3_:=Aside0.mk (below_step (by repeat (first | (with_reducible first | exact HB.out | apply below_alloc | apply pw_below_drewN | apply below_drew1) | exact HB.out)) hb);clear HO_10;clear HB;have HO_10:=n0_;have HO411:=n1_;have HO413:=n2_;have HB:=n3_;clear n0_ n1_ n2_ n3_;(try clear hb);(try clear ho0);(try clear ho1);obtain ⟨Ao20,co20,eo20⟩:=Kd.R_slice HO_10.out;subst eo20) | ((with_reducible refine gate_callee (f:=19) rfl ?_);refine goesL_ (some 44) rfl rfl Try.func19 (by kernel_rfl) rfl #[.string t401,.slice Ao20 x10_1.length co20] rfl (by (try simp only [List.map_toArray,List.map_cons,List.map_nil]);first | done | rfl | (simp only [List.length_drop,List.length_take];rfl)) ?_;(with_reducible refine (card_Realize.calls t401 _ _ x10_1 t414 _ ?side1 ?side2 A14.out).mono ?_);(case side1=>repeat (first | exact (Kd.R_reads' HO_10.out).2.2 | (with_reducible refine Kd.C_alloc ?_ _) | (with_reducible refine Kd.C_drewN ?_ _) | (with_reducible refine Kd.C_drew ?_)));(case side2=>exact (Kd.R_reads' HO_10.out).2.1);rintro e w21 ⟨rfl,hb⟩;refine ⟨_,rfl,?_⟩;have n0_:=Aside0.mk (Kd.R_below (by (with_reducible repeat (first | apply Kd.R_alloc | apply Kd.R_drewN | apply Kd.R_drew));exact HO_10.out) hb);have n1_:=Aside0.mk (Kd.R_below (by (with_reducible repeat (first | apply Kd.R_alloc | apply Kd.R_drewN | apply Kd.R_drew));exact HO411.out) hb);have n2_:=Aside0.mk (Kd.S_below (by (with_reducible repeat (first | apply Kd.S_alloc | apply Kd.S_drewN | apply Kd.S_drew));exact HO413.out) hb);have n3_:=Aside0.mk (below_step (by repeat (first | (with_reducible first | exact HB.out | apply below_alloc | apply pw_below_drewN | apply below_drew1) | exact HB.out)) hb);clear HO_10;clear HO411;clear HO413;clear HB;have HO_10:=n0_;have HO411:=n1_;have HO413:=n2_;have HB:=n3_;clear n0_ n1_ n2_ n3_;(try clear hb)) | ((with_reducible refine gate_callee (f:=18) rfl ?_);refine goesL_ (some 47) rfl rfl Try.func18 (by kernel_rfl) rfl #[.slice A3 l3.length c3] rfl (by (try simp only [List.map_toArray,List.map_cons,List.map_nil]);first | done | rfl | (simp only [List.length_drop,List.length_take];rfl)) ?_;(with_reducible refine (numnahlaw01_lists.calls k1 _ _ l3 t415 _ ?side1 ?side2 A15.out).mono ?_);(case side1=>repeat (first | exact (Kd.C_below HR3.out HB.out) | (with_reducible refine Kd.C_alloc ?_ _) | (with_reducible refine Kd.C_drewN ?_ _) | (with_reducible refine Kd.C_drew ?_)));(case side2=>exact HC3.out);rintro e w22 ⟨v416,rfl,ho0,hb⟩;refine ⟨_,rfl,?_⟩;have n0_:=Aside0.mk (Kd.R_below (by (with_reducible repeat (first | apply Kd.R_alloc | apply Kd.R_drewN | apply Kd.R_drew));exact HO_10.out) hb);have n1_:=Aside0.mk (Kd.R_below (by (with_reducible repeat (first | apply Kd.R_alloc | apply Kd.R_drewN | apply Kd.R_drew));exact HO411.out) hb);have n2_:=Aside0.mk (Kd.S_elder' (by (with_reducible repeat (first | apply Kd.S_alloc | apply Kd.S_drewN | apply Kd.S_drew));exact HO413.out) (Kd.S_base ho0) hb);have n3_:=Aside0.mk (Kd.S_lower (Kd.S_new' (Kd.S_new' (Kd.S_new' ho0 (Kd.R_lt (by (with_reducible repeat (first | apply Kd.R_alloc | apply Kd.R_drewN | apply Kd.R_drew));exact HO_10.out))) (Kd.R_lt (by (with_reducible repeat (first | apply Kd.R_alloc | apply Kd.R_drewN | apply Kd.R_drew));exact HO411.out))) (Kd.S_lt (by (with_reducible repeat (first | apply Kd.S_alloc | apply Kd.S_drewN | apply Kd.S_drew));exact HO413.out))) (below_size (by repeat (first | (with_reducible first | exact HB.out | apply below_alloc | apply pw_below_drewN | apply below_drew1) | exact HB.out))));have n4_:=Aside0.mk (below_step (by repeat (first | (with_reducible first | exact HB.out | apply below_alloc | apply pw_below_drewN | apply below_drew1) | exact HB.out)) hb);clear HO_10;clear HO411;clear HO413;clear HB;have HO_10:=n0_;have HO411:=n1_;have HO413:=n2_;have HO417:=n3_;have HB:=n4_;clear n0_ n1_ n2_ n3_ n4_;(try clear hb);(try clear ho0);obtain ⟨Ao23,co23,eo23⟩:=Kd.S_slice HO417.out;subst eo23) | ((with_reducible refine gate_callee (f:=20) rfl ?_);refine goesL_ (some 48) rfl rfl Try.func20 (by kernel_rfl) rfl #[.string t401,.slice Ao23 t415.length co23] rfl (by (try simp only [List.map_toArray,List.map_cons,List.map_nil]);first | done | rfl | (simp only [List.length_drop,List.length_take];rfl)) ?_;(with_reducible refine (card_Balance.calls t401 _ _ t415 t418 _ ?side1 ?side2 A16.out).mono ?_);(case side1=>repeat (first | exact (Kd.S_reads' HO417.out).2.2 | (with_reducible refine Kd.C_alloc ?_ _) | (with_reducible refine Kd.C_drewN ?_ _) | (with_reducible refine Kd.C_drew ?_)));(case side2=>exact (Kd.S_reads' HO417.out).2.1);rintro e w24 ⟨rfl,hb⟩;refine ⟨_,rfl,?_⟩;have n0_:=Aside0.mk (Kd.R_below (by (with_reducible repeat (first | apply Kd.R_alloc | apply Kd.R_drewN | apply Kd.R_drew));exact HO_10.out) hb);have n1_:=Aside0.mk (Kd.R_below (by (with_reducible repeat (first | apply Kd.R_alloc | apply Kd.R_drewN | apply Kd.R_drew));exact HO411.out) hb);have n2_:=Aside0.mk (Kd.S_below (by (with_reducible repeat (first | apply Kd.S_alloc | apply Kd.S_drewN | apply Kd.S_drew));exact HO413.out) hb);have n3_:=Aside0.mk (Kd.S_below (by (with_reducible repeat (first | apply Kd.S_alloc | apply Kd.S_drewN | apply Kd.S_drew));exact HO417.out) hb);have n4_:=Aside0.mk (below_step (by repeat (first | (with_reducible first | exact HB.out | apply below_alloc | apply pw_below_drewN | apply below_drew1) | exact HB.out)) hb);clear HO_10;clear HO411;clear HO413;clear HO417;clear HB;have HO_10:=n0_;have HO411:=n1_;have HO413:=n2_;have HO417:=n3_;have HB:=n4_;clear n0_ n1_ n2_ n3_ n4_;(try clear hb);obtain ⟨Ao25,co25,eo25⟩:=Kd.R_slice HO411.out;subst eo25;obtain ⟨Ao26,co26,eo26⟩:=Kd.S_slice HO413.out;subst eo26))
    go_ret
    exact ⟨by first | rfl | (simp [errW_none,errW_some] <;> rfl) | (simp [*,errW_none,errW_some] <;> rfl),by repeat (first | (with_reducible first | exact HB.out | apply below_alloc | apply pw_below_drewN | apply below_drew1) | exact HB.out)⟩
   rw [if_neg c18] at H
   have c18b0:(((t407.length:Int) == 0) == ((t408.length:Int) == 0)) = false:=by simpa using c18
   (try (have c18b1:decide (((t407.length:Int) == 0) = ((t408.length:Int) == 0)) = false:=by simpa using c18))
   (try (have c18b2:(((t407.length:Int) == 0) == ((t408.length:Int) == 0)) = false:=by simpa using c18))
   (try (have c18b3:¬ (((t407.length:Int) == 0) = ((t408.length:Int) == 0)):=by simpa using c18))
   clear c18
   by_cases c27:t414 = 0
   ·rw [if_pos c27] at H
    have c27b0:(t414 == 0) = true:=beq_iff_eq.mpr c27
    have c27b1:(t414 != 0) = false:=bne_eq_false_iff_eq.mpr c27
    clear c27
    by_cases c28:t418 = 0
    ·rw [if_pos c28] at H
     have c28b0:(t418 == 0) = true:=beq_iff_eq.mpr c28
     have c28b1:(t418 != 0) = false:=bne_eq_false_iff_eq.mpr c28
     clear c28
     obtain rfl:=Option.some.inj H
     go_wp2_with (first | ((with_reducible refine gate_callee (f:=44) rfl ?_);refine goesL_ (some 38) rfl rfl Try.func44 (by kernel_rfl) rfl #[.string t401] rfl (by (try simp only [List.map_toArray,List.map_cons,List.map_nil]);first | done | rfl | (simp only [List.length_drop,List.length_take];rfl)) ?_;(with_reducible refine (card_Weights.calls t401 t407 t408 t409 _ A13.out).mono ?_);rintro e w29 ⟨v410,v412,rfl,ho0,ho1,hb⟩;refine ⟨_,rfl,?_⟩;have n0_:=Aside0.mk (Kd.R_elder' (by (with_reducible repeat (first | apply Kd.R_alloc | apply Kd.R_drewN | apply Kd.R_drew));exact HO_10.out) (Kd.R_base ho0) hb);have n1_:=Aside0.mk (Kd.R_lower (Kd.R_new' ho0 (Kd.R_lt (by (with_reducible repeat (first | apply Kd.R_alloc | apply Kd.R_drewN | apply Kd.R_drew));exact HO_10.out))) (below_size (by repeat (first | (with_reducible first | exact HB.out | apply below_alloc | apply pw_below_drewN | apply below_drew1) | exact HB.out))));have n2_:=Aside0.mk (Kd.S_lower (Kd.S_new' ho1 (Kd.R_lt (by (with_reducible repeat (first | apply Kd.R_alloc | apply Kd.R_drewN | apply Kd.R_drew));exact HO_10.out))) (below_size (by repeat (first | (with_reducible first | exact HB.out | apply below_alloc | apply pw_below_drewN | apply below_drew1) | exact HB.out))));have n3_:=Aside0.mk (below_step (by repeat (first | (with_reducible first | exact HB.out | apply below_alloc | apply pw_below_drewN | apply below_drew1) | exact HB.out)) hb);clear HO_10;clear HB;have HO_10:=n0_;have HO411:=n1_;have HO413:=n2_;have HB:=n3_;clear n0_ n1_ n2_ n3_;(try clear hb);(try clear ho0);(try clear ho1);obtain ⟨Ao30,co30,eo30⟩:=Kd.R_slice HO_10.out;subst eo30) | ((with_reducible refine gate_callee (f:=19) rfl ?_);refine goesL_ (some 44) rfl rfl Try.func19 (by kernel_rfl) rfl #[.string t401,.slice Ao30 x10_1.length co30] rfl (by (try simp only [List.map_toArray,List.map_cons,List.map_nil]);first | done | rfl | (simp only [List.length_drop,List.length_take];rfl)) ?_;(with_reducible refine (card_Realize.calls t401 _ _ x10_1 t414 _ ?side1 ?side2 A14.out).mono ?_);(case side1=>repeat (first | exact (Kd.R_reads' HO_10.out).2.2 | (with_reducible refine Kd.C_alloc ?_ _) | (with_reducible refine Kd.C_drewN ?_ _) | (with_reducible refine Kd.C_drew ?_)));(case side2=>exact (Kd.R_reads' HO_10.out).2.1);rintro e w31 ⟨rfl,hb⟩;refine ⟨_,rfl,?_⟩;have n0_:=Aside0.mk (Kd.R_below (by (with_reducible repeat (first | apply Kd.R_alloc | apply Kd.R_drewN | apply Kd.R_drew));exact HO_10.out) hb);have n1_:=Aside0.mk (Kd.R_below (by (with_reducible repeat (first | apply Kd.R_alloc | apply Kd.R_drewN | apply Kd.R_drew));exact HO411.out) hb);have n2_:=Aside0.mk (Kd.S_below (by (with_reducible repeat (first | apply Kd.S_alloc | apply Kd.S_drewN | apply Kd.S_drew));exact HO413.out) hb);have n3_:=Aside0.mk (below_step (by repeat (first | (with_reducible first | exact HB.out | apply below_alloc | apply pw_below_drewN | apply below_drew1) | exact HB.out)) hb);clear HO_10;clear HO411;clear HO413;clear HB;have HO_10:=n0_;have HO411:=n1_;have HO413:=n2_;have HB:=n3_;clear n0_ n1_ n2_ n3_;(try clear hb)) | ((with_reducible refine gate_callee (f:=18) rfl ?_);refine goesL_ (some 47) rfl rfl Try.func18 (by kernel_rfl) rfl #[.slice A3 l3.length c3] rfl (by (try simp only [List.map_toArray,List.map_cons,List.map_nil]);first | done | rfl | (simp only [List.length_drop,List.length_take];rfl)) ?_;(with_reducible refine (numnahlaw01_lists.calls k1 _ _ l3 t415 _ ?side1 ?side2 A15.out).mono ?_);(case side1=>repeat (first | exact (Kd.C_below HR3.out HB.out) | (with_reducible refine Kd.C_alloc ?_ _) | (with_reducible refine Kd.C_drewN ?_ _) | (with_reducible refine Kd.C_drew ?_)));(case side2=>exact HC3.out);rintro e w32 ⟨v416,rfl,ho0,hb⟩;refine ⟨_,rfl,?_⟩;have n0_:=Aside0.mk (Kd.R_below (by (with_reducible repeat (first | apply Kd.R_alloc | apply Kd.R_drewN | apply Kd.R_drew));exact HO_10.out) hb);have n1_:=Aside0.mk (Kd.R_below (by (with_reducible repeat (first | apply Kd.R_alloc | apply Kd.R_drewN | apply Kd.R_drew));exact HO411.out) hb);have n2_:=Aside0.mk (Kd.S_elder' (by (with_reducible repeat (first | apply Kd.S_alloc | apply Kd.S_drewN | apply Kd.S_drew));exact HO413.out) (Kd.S_base ho0) hb);have n3_:=Aside0.mk (Kd.S_lower (Kd.S_new' (Kd.S_new' (Kd.S_new' ho0 (Kd.R_lt (by (with_reducible repeat (first | apply Kd.R_alloc | apply Kd.R_drewN | apply Kd.R_drew));exact HO_10.out))) (Kd.R_lt (by (with_reducible repeat (first | apply Kd.R_alloc | apply Kd.R_drewN | apply Kd.R_drew));exact HO411.out))) (Kd.S_lt (by (with_reducible repeat (first | apply Kd.S_alloc | apply Kd.S_drewN | apply Kd.S_drew));exact HO413.out))) (below_size (by repeat (first | (with_reducible first | exact HB.out | apply below_alloc | apply pw_below_drewN | apply below_drew1) | exact HB.out))));have n4_:=Aside0.mk (below_step (by repeat (first | (with_reducible first | exact HB.out | apply below_alloc | apply pw_below_drewN | apply below_drew1) | exact HB.out)) hb);clear HO_10;clear HO411;clear HO413;clear HB;have HO_10:=n0_;have HO411:=n1_;have HO413:=n2_;have HO417:=n3_;have HB:=n4_;clear n0_ n1_ n2_ n3_ n4_;(try clear hb);(try clear ho0);obtain ⟨Ao33,co33,eo33⟩:=Kd.S_slice HO417.out;subst eo33) | ((with_reducible refine gate_callee (f:=20) rfl ?_);refine goesL_ (some 48) rfl rfl Try.func20 (by kernel_rfl) rfl #[.string t401,.slice Ao33 t415.length co33] rfl (by (try simp only [List.map_toArray,List.map_cons,List.map_nil]);first | done | rfl | (simp only [List.length_drop,List.length_take];rfl)) ?_;(with_reducible refine (card_Balance.calls t401 _ _ t415 t418 _ ?side1 ?side2 A16.out).mono ?_);(case side1=>repeat (first | exact (Kd.S_reads' HO417.out).2.2 | (with_reducible refine Kd.C_alloc ?_ _) | (with_reducible refine Kd.C_drewN ?_ _) | (with_reducible refine Kd.C_drew ?_)));(case side2=>exact (Kd.S_reads' HO417.out).2.1);rintro e w34 ⟨rfl,hb⟩;refine ⟨_,rfl,?_⟩;have n0_:=Aside0.mk (Kd.R_below (by (with_reducible repeat (first | apply Kd.R_alloc | apply Kd.R_drewN | apply Kd.R_drew));exact HO_10.out) hb);have n1_:=Aside0.mk (Kd.R_below (by (with_reducible repeat (first | apply Kd.R_alloc | apply Kd.R_drewN | apply Kd.R_drew));exact HO411.out) hb);have n2_:=Aside0.mk (Kd.S_below (by (with_reducible repeat (first | apply Kd.S_alloc | apply Kd.S_drewN | apply Kd.S_drew));exact HO413.out) hb);have n3_:=Aside0.mk (Kd.S_below (by (with_reducible repeat (first | apply Kd.S_alloc | apply Kd.S_drewN | apply Kd.S_drew));exact HO417.out) hb);have n4_:=Aside0.mk (below_step (by repeat (first | (with_reducible first | exact HB.out | apply below_alloc | apply pw_below_drewN | apply below_drew1) | exact HB.out)) hb);clear HO_10;clear HO411;clear HO413;clear HO417;clear HB;have HO_10:=n0_;have HO411:=n1_;have HO413:=n2_;have HO417:=n3_;have HB:=n4_;clear n0_ n1_ n2_ n3_ n4_;(try clear hb);obtain ⟨Ao35,co35,eo35⟩:=Kd.R_slice HO411.out;subst eo35;obtain ⟨Ao36,co36,eo36⟩:=Kd.S_slice HO413.out;subst eo36))
     go_ret
     exact ⟨by first | rfl | (simp [errW_none,errW_some] <;> rfl) | (simp [*,errW_none,errW_some] <;> rfl),by repeat (first | (with_reducible first | exact HB.out | apply below_alloc | apply pw_below_drewN | apply below_drew1) | exact HB.out)⟩
    rw [if_neg c28] at H
    have c28b0:(t418 == 0) = false:=beq_eq_false_iff_ne.mpr c28
    have c28b1:(t418 != 0) = true:=bne_iff_ne.mpr c28
    by_cases c37:(t407.length:Int) = 0
    ·rw [if_pos c37] at H
     have c37b0:((t407.length:Int) == 0) = true:=beq_iff_eq.mpr c37
     have c37b1:((t407.length:Int) != 0) = false:=bne_eq_false_iff_eq.mpr c37
     clear c37
     obtain rfl:=Option.some.inj H
     go_wp2_with (first | ((with_reducible refine gate_callee (f:=44) rfl ?_);refine goesL_ (some 38) rfl rfl Try.func44 (by kernel_rfl) rfl #[.string t401] rfl (by (try simp only [List.map_toArray,List.map_cons,List.map_nil]);first | done | rfl | (simp only [List.length_drop,List.length_take];rfl)) ?_;(with_reducible refine (card_Weights.calls t401 t407 t408 t409 _ A13.out).mono ?_);rintro e w38 ⟨v410,v412,rfl,ho0,ho1,hb⟩;refine ⟨_,rfl,?_⟩;have n0_:=Aside0.mk (Kd.R_elder' (by (with_reducible repeat (first | apply Kd.R_alloc | apply Kd.R_drewN | apply Kd.R_drew));exact HO_10.out) (Kd.R_base ho0) hb);have n1_:=Aside0.mk (Kd.R_lower (Kd.R_new' ho0 (Kd.R_lt (by (with_reducible repeat (first | apply Kd.R_alloc | apply Kd.R_drewN | apply Kd.R_drew));exact HO_10.out))) (below_size (by repeat (first | (with_reducible first | exact HB.out | apply below_alloc | apply pw_below_drewN | apply below_drew1) | exact HB.out))));have n2_:=Aside0.mk (Kd.S_lower (Kd.S_new' ho1 (Kd.R_lt (by (with_reducible repeat (first | apply Kd.R_alloc | apply Kd.R_drewN | apply Kd.R_drew));exact HO_10.out))) (below_size (by repeat (first | (with_reducible first | exact HB.out | apply below_alloc | apply pw_below_drewN | apply below_drew1) | exact HB.out))));have n3_:=Aside0.mk (below_step (by repeat (first | (with_reducible first | exact HB.out | apply below_alloc | apply pw_below_drewN | apply below_drew1) | exact HB.out)) hb);clear HO_10;clear HB;have HO_10:=n0_;have HO411:=n1_;have HO413:=n2_;have HB:=n3_;clear n0_ n1_ n2_ n3_;(try clear hb);(try clear ho0);(try clear ho1);obtain ⟨Ao39,co39,eo39⟩:=Kd.R_slice HO_10.out;subst eo39) | ((with_reducible refine gate_callee (f:=19) rfl ?_);refine goesL_ (some 44) rfl rfl Try.func19 (by kernel_rfl) rfl #[.string t401,.slice Ao39 x10_1.length co39] rfl (by (try simp only [List.map_toArray,List.map_cons,List.map_nil]);first | done | rfl | (simp only [List.length_drop,List.length_take];rfl)) ?_;(with_reducible refine (card_Realize.calls t401 _ _ x10_1 t414 _ ?side1 ?side2 A14.out).mono ?_);(case side1=>repeat (first | exact (Kd.R_reads' HO_10.out).2.2 | (with_reducible refine Kd.C_alloc ?_ _) | (with_reducible refine Kd.C_drewN ?_ _) | (with_reducible refine Kd.C_drew ?_)));(case side2=>exact (Kd.R_reads' HO_10.out).2.1);rintro e w40 ⟨rfl,hb⟩;refine ⟨_,rfl,?_⟩;have n0_:=Aside0.mk (Kd.R_below (by (with_reducible repeat (first | apply Kd.R_alloc | apply Kd.R_drewN | apply Kd.R_drew));exact HO_10.out) hb);have n1_:=Aside0.mk (Kd.R_below (by (with_reducible repeat (first | apply Kd.R_alloc | apply Kd.R_drewN | apply Kd.R_drew));exact HO411.out) hb);have n2_:=Aside0.mk (Kd.S_below (by (with_reducible repeat (first | apply Kd.S_alloc | apply Kd.S_drewN | apply Kd.S_drew));exact HO413.out) hb);have n3_:=Aside0.mk (below_step (by repeat (first | (with_reducible first | exact HB.out | apply below_alloc | apply pw_below_drewN | apply below_drew1) | exact HB.out)) hb);clear HO_10;clear HO411;clear HO413;clear HB;have HO_10:=n0_;have HO411:=n1_;have HO413:=n2_;have HB:=n3_;clear n0_ n1_ n2_ n3_;(try clear hb)) | ((with_reducible refine gate_callee (f:=18) rfl ?_);refine goesL_ (some 47) rfl rfl Try.func18 (by kernel_rfl) rfl #[.slice A3 l3.length c3] rfl (by (try simp only [List.map_toArray,List.map_cons,List.map_nil]);first | done | rfl | (simp only [List.length_drop,List.length_take];rfl)) ?_;(with_reducible refine (numnahlaw01_lists.calls k1 _ _ l3 t415 _ ?side1 ?side2 A15.out).mono ?_);(case side1=>repeat (first | exact (Kd.C_below HR3.out HB.out) | (with_reducible refine Kd.C_alloc ?_ _) | (with_reducible refine Kd.C_drewN ?_ _) | (with_reducible refine Kd.C_drew ?_)));(case side2=>exact HC3.out);rintro e w41 ⟨v416,rfl,ho0,hb⟩;refine ⟨_,rfl,?_⟩;have n0_:=Aside0.mk (Kd.R_below (by (with_reducible repeat (first | apply Kd.R_alloc | apply Kd.R_drewN | apply Kd.R_drew));exact HO_10.out) hb);have n1_:=Aside0.mk (Kd.R_below (by (with_reducible repeat (first | apply Kd.R_alloc | apply Kd.R_drewN | apply Kd.R_drew));exact HO411.out) hb);have n2_:=Aside0.mk (Kd.S_elder' (by (with_reducible repeat (first | apply Kd.S_alloc | apply Kd.S_drewN | apply Kd.S_drew));exact HO413.out) (Kd.S_base ho0) hb);have n3_:=Aside0.mk (Kd.S_lower (Kd.S_new' (Kd.S_new' (Kd.S_new' ho0 (Kd.R_lt (by (with_reducible repeat (first | apply Kd.R_alloc | apply Kd.R_drewN | apply Kd.R_drew));exact HO_10.out))) (Kd.R_lt (by (with_reducible repeat (first | apply Kd.R_alloc | apply Kd.R_drewN | apply Kd.R_drew));exact HO411.out))) (Kd.S_lt (by (with_reducible repeat (first | apply Kd.S_alloc | apply Kd.S_drewN | apply Kd.S_drew));exact HO413.out))) (below_size (by repeat (first | (with_reducible first | exact HB.out | apply below_alloc | apply pw_below_drewN | apply below_drew1) | exact HB.out))));have n4_:=Aside0.mk (below_step (by repeat (first | (with_reducible first | exact HB.out | apply below_alloc | apply pw_below_drewN | apply below_drew1) | exact HB.out)) hb);clear HO_10;clear HO411;clear HO413;clear HB;have HO_10:=n0_;have HO411:=n1_;have HO413:=n2_;have HO417:=n3_;have HB:=n4_;clear n0_ n1_ n2_ n3_ n4_;(try clear hb);(try clear ho0);obtain ⟨Ao42,co42,eo42⟩:=Kd.S_slice HO417.out;subst eo42) | ((with_reducible refine gate_callee (f:=20) rfl ?_);refine goesL_ (some 48) rfl rfl Try.func20 (by kernel_rfl) rfl #[.string t401,.slice Ao42 t415.length co42] rfl (by (try simp only [List.map_toArray,List.map_cons,List.map_nil]);first | done | rfl | (simp only [List.length_drop,List.length_take];rfl)) ?_;(with_reducible refine (card_Balance.calls t401 _ _ t415 t418 _ ?side1 ?side2 A16.out).mono ?_);(case side1=>repeat (first | exact (Kd.S_reads' HO417.out).2.2 | (with_reducible refine Kd.C_alloc ?_ _) | (with_reducible refine Kd.C_drewN ?_ _) | (with_reducible refine Kd.C_drew ?_)));(case side2=>exact (Kd.S_reads' HO417.out).2.1);rintro e w43 ⟨rfl,hb⟩;refine ⟨_,rfl,?_⟩;have n0_:=Aside0.mk (Kd.R_below (by (with_reducible repeat (first | apply Kd.R_alloc | apply Kd.R_drewN | apply Kd.R_drew));exact HO_10.out) hb);have n1_:=Aside0.mk (Kd.R_below (by (with_reducible repeat (first | apply Kd.R_alloc | apply Kd.R_drewN | apply Kd.R_drew));exact HO411.out) hb);have n2_:=Aside0.mk (Kd.S_below (by (with_reducible repeat (first | apply Kd.S_alloc | apply Kd.S_drewN | apply Kd.S_drew));exact HO413.out) hb);have n3_:=Aside0.mk (Kd.S_below (by (with_reducible repeat (first | apply Kd.S_alloc | apply Kd.S_drewN | apply Kd.S_drew));exact HO417.out) hb);have n4_:=Aside0.mk (below_step (by repeat (first | (with_reducible first | exact HB.out | apply below_alloc | apply pw_below_drewN | apply below_drew1) | exact HB.out)) hb);clear HO_10;clear HO411;clear HO413;clear HO417;clear HB;have HO_10:=n0_;have HO411:=n1_;have HO413:=n2_;have HO417:=n3_;have HB:=n4_;clear n0_ n1_ n2_ n3_ n4_;(try clear hb);obtain ⟨Ao44,co44,eo44⟩:=Kd.R_slice HO411.out;subst eo44;obtain ⟨Ao45,co45,eo45⟩:=Kd.S_slice HO413.out;subst eo45))
     go_ret
     exact ⟨by first | rfl | (simp [errW_none,errW_some] <;> rfl) | (simp [*,errW_none,errW_some] <;> rfl),by repeat (first | (with_reducible first | exact HB.out | apply below_alloc | apply pw_below_drewN | apply below_drew1) | exact HB.out)⟩
     go_ret
     exact ⟨by first | rfl | (simp [errW_none,errW_some] <;> rfl) | (simp [*,errW_none,errW_some] <;> rfl),by repeat (first | (with_reducible first | exact HB.out | apply below_alloc | apply pw_below_drewN | apply below_drew1) | exact HB.out)⟩
    rw [if_neg c37] at H
    have c37b0:((t407.length:Int) == 0) = false:=beq_eq_false_iff_ne.mpr c37
    have c37b1:((t407.length:Int) != 0) = true:=bne_iff_ne.mpr c37
    have c37b2:¬ (t407 = []):=fun h_=>c37 (by rw [h_];rfl)
    replace H:=Option.bind_eq_some_iff.mp H
    obtain ⟨t419,A460,H⟩:=H
    replace H:(some t419) = some r:=H
    have A46:=Aside0.mk A460
    clear A460
    obtain rfl:=Option.some.inj H
    go_wp2_with (first | ((with_reducible refine gate_callee (f:=44) rfl ?_);refine goesL_ (some 38) rfl rfl Try.func44 (by kernel_rfl) rfl #[.string t401] rfl (by (try simp only [List.map_toArray,List.map_cons,List.map_nil]);first | done | rfl | (simp only [List.length_drop,List.length_take];rfl)) ?_;(with_reducible refine (card_Weights.calls t401 t407 t408 t409 _ A13.out).mono ?_);rintro e w47 ⟨v410,v412,rfl,ho0,ho1,hb⟩;refine ⟨_,rfl,?_⟩;have n0_:=Aside0.mk (Kd.R_elder' (by (with_reducible repeat (first | apply Kd.R_alloc | apply Kd.R_drewN | apply Kd.R_drew));exact HO_10.out) (Kd.R_base ho0) hb);have n1_:=Aside0.mk (Kd.R_lower (Kd.R_new' ho0 (Kd.R_lt (by (with_reducible repeat (first | apply Kd.R_alloc | apply Kd.R_drewN | apply Kd.R_drew));exact HO_10.out))) (below_size (by repeat (first | (with_reducible first | exact HB.out | apply below_alloc | apply pw_below_drewN | apply below_drew1) | exact HB.out))));have n2_:=Aside0.mk (Kd.S_lower (Kd.S_new' ho1 (Kd.R_lt (by (with_reducible repeat (first | apply Kd.R_alloc | apply Kd.R_drewN | apply Kd.R_drew));exact HO_10.out))) (below_size (by repeat (first | (with_reducible first | exact HB.out | apply below_alloc | apply pw_below_drewN | apply below_drew1) | exact HB.out))));have n3_:=Aside0.mk (below_step (by repeat (first | (with_reducible first | exact HB.out | apply below_alloc | apply pw_below_drewN | apply below_drew1) | exact HB.out)) hb);clear HO_10;clear HB;have HO_10:=n0_;have HO411:=n1_;have HO413:=n2_;have HB:=n3_;clear n0_ n1_ n2_ n3_;(try clear hb);(try clear ho0);(try clear ho1);obtain ⟨Ao48,co48,eo48⟩:=Kd.R_slice HO_10.out;subst eo48) | ((with_reducible refine gate_callee (f:=19) rfl ?_);refine goesL_ (some 44) rfl rfl Try.func19 (by kernel_rfl) rfl #[.string t401,.slice Ao48 x10_1.length co48] rfl (by (try simp only [List.map_toArray,List.map_cons,List.map_nil]);first | done | rfl | (simp only [List.length_drop,List.length_take];rfl)) ?_;(with_reducible refine (card_Realize.calls t401 _ _ x10_1 t414 _ ?side1 ?side2 A14.out).mono ?_);(case side1=>repeat (first | exact (Kd.R_reads' HO_10.out).2.2 | (with_reducible refine Kd.C_alloc ?_ _) | (with_reducible refine Kd.C_drewN ?_ _) | (with_reducible refine Kd.C_drew ?_)));(case side2=>exact (Kd.R_reads' HO_10.out).2.1);rintro e w49 ⟨rfl,hb⟩;refine ⟨_,rfl,?_⟩;have n0_:=Aside0.mk (Kd.R_below (by (with_reducible repeat (first | apply Kd.R_alloc | apply Kd.R_drewN | apply Kd.R_drew));exact HO_10.out) hb);have n1_:=Aside0.mk (Kd.R_below (by (with_reducible repeat (first | apply Kd.R_alloc | apply Kd.R_drewN | apply Kd.R_drew));exact HO411.out) hb);have n2_:=Aside0.mk (Kd.S_below (by (with_reducible repeat (first | apply Kd.S_alloc | apply Kd.S_drewN | apply Kd.S_drew));exact HO413.out) hb);have n3_:=Aside0.mk (below_step (by repeat (first | (with_reducible first | exact HB.out | apply below_alloc | apply pw_below_drewN | apply below_drew1) | exact HB.out)) hb);clear HO_10;clear HO411;clear HO413;clear HB;have HO_10:=n0_;have HO411:=n1_;have HO413:=n2_;have HB:=n3_;clear n0_ n1_ n2_ n3_;(try clear hb)) | ((with_reducible refine gate_callee (f:=18) rfl ?_);refine goesL_ (some 47) rfl rfl Try.func18 (by kernel_rfl) rfl #[.slice A3 l3.length c3] rfl (by (try simp only [List.map_toArray,List.map_cons,List.map_nil]);first | done | rfl | (simp only [List.length_drop,List.length_take];rfl)) ?_;(with_reducible refine (numnahlaw01_lists.calls k1 _ _ l3 t415 _ ?side1 ?side2 A15.out).mono ?_);(case side1=>repeat (first | exact (Kd.C_below HR3.out HB.out) | (with_reducible refine Kd.C_alloc ?_ _) | (with_reducible refine Kd.C_drewN ?_ _) | (with_reducible refine Kd.C_drew ?_)));(case side2=>exact HC3.out);rintro e w50 ⟨v416,rfl,ho0,hb⟩;refine ⟨_,rfl,?_⟩;have n0_:=Aside0.mk (Kd.R_below (by (with_reducible repeat (first | apply Kd.R_alloc | apply Kd.R_drewN | apply Kd.R_drew));exact HO_10.out) hb);have n1_:=Aside0.mk (Kd.R_below (by (with_reducible repeat (first | apply Kd.R_alloc | apply Kd.R_drewN | apply Kd.R_drew));exact HO411.out) hb);have n2_:=Aside0.mk (Kd.S_elder' (by (with_reducible repeat (first | apply Kd.S_alloc | apply Kd.S_drewN | apply Kd.S_drew));exact HO413.out) (Kd.S_base ho0) hb);have n3_:=Aside0.mk (Kd.S_lower (Kd.S_new' (Kd.S_new' (Kd.S_new' ho0 (Kd.R_lt (by (with_reducible repeat (first | apply Kd.R_alloc | apply Kd.R_drewN | apply Kd.R_drew));exact HO_10.out))) (Kd.R_lt (by (with_reducible repeat (first | apply Kd.R_alloc | apply Kd.R_drewN | apply Kd.R_drew));exact HO411.out))) (Kd.S_lt (by (with_reducible repeat (first | apply Kd.S_alloc | apply Kd.S_drewN | apply Kd.S_drew));exact HO413.out))) (below_size (by repeat (first | (with_reducible first | exact HB.out | apply below_alloc | apply pw_below_drewN | apply below_drew1) | exact HB.out))));have n4_:=Aside0.mk (below_step (by repeat (first | (with_reducible first | exact HB.out | apply below_alloc | apply pw_below_drewN | apply below_drew1) | exact HB.out)) hb);clear HO_10;clear HO411;clear HO413;clear HB;have HO_10:=n0_;have HO411:=n1_;have HO413:=n2_;have HO417:=n3_;have HB:=n4_;clear n0_ n1_ n2_ n3_ n4_;(try clear hb);(try clear ho0);obtain ⟨Ao51,co51,eo51⟩:=Kd.S_slice HO417.out;subst eo51) | ((with_reducible refine gate_callee (f:=20) rfl ?_);refine goesL_ (some 48) rfl rfl Try.func20 (by kernel_rfl) rfl #[.string t401,.slice Ao51 t415.length co51] rfl (by (try simp only [List.map_toArray,List.map_cons,List.map_nil]);first | done | rfl | (simp only [List.length_drop,List.length_take];rfl)) ?_;(with_reducible refine (card_Balance.calls t401 _ _ t415 t418 _ ?side1 ?side2 A16.out).mono ?_);(case side1=>repeat (first | exact (Kd.S_reads' HO417.out).2.2 | (with_reducible refine Kd.C_alloc ?_ _) | (with_reducible refine Kd.C_drewN ?_ _) | (with_reducible refine Kd.C_drew ?_)));(case side2=>exact (Kd.S_reads' HO417.out).2.1);rintro e w52 ⟨rfl,hb⟩;refine ⟨_,rfl,?_⟩;have n0_:=Aside0.mk (Kd.R_below (by (with_reducible repeat (first | apply Kd.R_alloc | apply Kd.R_drewN | apply Kd.R_drew));exact HO_10.out) hb);have n1_:=Aside0.mk (Kd.R_below (by (with_reducible repeat (first | apply Kd.R_alloc | apply Kd.R_drewN | apply Kd.R_drew));exact HO411.out) hb);have n2_:=Aside0.mk (Kd.S_below (by (with_reducible repeat (first | apply Kd.S_alloc | apply Kd.S_drewN | apply Kd.S_drew));exact HO413.out) hb);have n3_:=Aside0.mk (Kd.S_below (by (with_reducible repeat (first | apply Kd.S_alloc | apply Kd.S_drewN | apply Kd.S_drew));exact HO417.out) hb);have n4_:=Aside0.mk (below_step (by repeat (first | (with_reducible first | exact HB.out | apply below_alloc | apply pw_below_drewN | apply below_drew1) | exact HB.out)) hb);clear HO_10;clear HO411;clear HO413;clear HO417;clear HB;have HO_10:=n0_;have HO411:=n1_;have HO413:=n2_;have HO417:=n3_;have HB:=n4_;clear n0_ n1_ n2_ n3_ n4_;(try clear hb);obtain ⟨Ao53,co53,eo53⟩:=Kd.R_slice HO411.out;subst eo53;obtain ⟨Ao54,co54,eo54⟩:=Kd.S_slice HO413.out;subst eo54) | (go_at_call 22;(with_reducible refine (numnahlaw01_awake.calls  t419 _ A46.out).mono ?_);rintro e w55 ⟨rfl,hb⟩;have n0_:=Aside0.mk (Kd.R_below (by (with_reducible repeat (first | apply Kd.R_alloc | apply Kd.R_drewN | apply Kd.R_drew));exact HO_10.out) hb);have n1_:=Aside0.mk (Kd.R_below (by (with_reducible repeat (first | apply Kd.R_alloc | apply Kd.R_drewN | apply Kd.R_drew));exact HO411.out) hb);have n2_:=Aside0.mk (Kd.S_below (by (with_reducible repeat (first | apply Kd.S_alloc | apply Kd.S_drewN | apply Kd.S_drew));exact HO413.out) hb);have n3_:=Aside0.mk (Kd.S_below (by (with_reducible repeat (first | apply Kd.S_alloc | apply Kd.S_drewN | apply Kd.S_drew));exact HO417.out) hb);have n4_:=Aside0.mk (below_step (by repeat (first | (with_reducible first | exact HB.out | apply below_alloc | apply pw_below_drewN | apply below_drew1) | exact HB.out)) hb);clear HO_10;clear HO411;clear HO413;clear HO417;clear HB;have HO_10:=n0_;have HO411:=n1_;have HO413:=n2_;have HO417:=n3_;have HB:=n4_;clear n0_ n1_ n2_ n3_ n4_;(try clear hb)))
    go_ret
    exact ⟨by first | rfl | (simp [errW_none,errW_some] <;> rfl) | (simp [*,errW_none,errW_some] <;> rfl),by repeat (first | (with_reducible first | exact HB.out | apply below_alloc | apply pw_below_drewN | apply below_drew1) | exact HB.out)⟩
    rename_i h8
    exact (c18b3 (by rw [c37b0];exact (beq_eq_false_iff_ne.mpr (fun e=>h8 (List.eq_nil_of_length_eq_zero (by omega)))).symm)).elim
   rw [if_neg c27] at H
   have c27b0:(t414 == 0) = false:=beq_eq_false_iff_ne.mpr c27
   have c27b1:(t414 != 0) = true:=bne_iff_ne.mpr c27
   by_cases c56:t418 = 0
   case neg =>
    rw [if_neg c56] at H
    have c56b0:(t418 == 0) = false:=beq_eq_false_iff_ne.mpr c56
    have c56b1:(t418 != 0) = true:=bne_iff_ne.mpr c56
    replace H:=Option.bind_eq_some_iff.mp H
    obtain ⟨t421,A760,H⟩:=H
    replace H:(some t421) = some r:=H
    have A76:=Aside0.mk A760
    clear A760
    obtain rfl:=Option.some.inj H
    go_wp2_with (first | ((with_reducible refine gate_callee (f:=44) rfl ?_);refine goesL_ (some 38) rfl rfl Try.func44 (by kernel_rfl) rfl #[.string t401] rfl (by (try simp only [List.map_toArray,List.map_cons,List.map_nil]);first | done | rfl | (simp only [List.length_drop,List.length_take];rfl)) ?_;(with_reducible refine (card_Weights.calls t401 t407 t408 t409 _ A13.out).mono ?_);rintro e w77 ⟨v410,v412,rfl,ho0,ho1,hb⟩;refine ⟨_,rfl,?_⟩;have n0_:=Aside0.mk (Kd.R_elder' (by (with_reducible repeat (first | apply Kd.R_alloc | apply Kd.R_drewN | apply Kd.R_drew));exact HO_10.out) (Kd.R_base ho0) hb);have n1_:=Aside0.mk (Kd.R_lower (Kd.R_new' ho0 (Kd.R_lt (by (with_reducible repeat (first | apply Kd.R_alloc | apply Kd.R_drewN | apply Kd.R_drew));exact HO_10.out))) (below_size (by repeat (first | (with_reducible first | exact HB.out | apply below_alloc | apply pw_below_drewN | apply below_drew1) | exact HB.out))));have n2_:=Aside0.mk (Kd.S_lower (Kd.S_new' ho1 (Kd.R_lt (by (with_reducible repeat (first | apply Kd.R_alloc | apply Kd.R_drewN | apply Kd.R_drew));exact HO_10.out))) (below_size (by repeat (first | (with_reducible first | exact HB.out | apply below_alloc | apply pw_below_drewN | apply below_drew1) | exact HB.out))));have n3_:=Aside0.mk (below_step (by repeat (first | (with_reducible first | exact HB.out | apply below_alloc | apply pw_below_drewN | apply below_drew1) | exact HB.out)) hb);clear HO_10;clear HB;have HO_10:=n0_;have HO411:=n1_;have HO413:=n2_;have HB:=n3_;clear n0_ n1_ n2_ n3_;(try clear hb);(try clear ho0);(try clear ho1);obtain ⟨Ao78,co78,eo78⟩:=Kd.R_slice HO_10.out;subst eo78) | ((with_reducible refine gate_callee (f:=19) rfl ?_);refine goesL_ (some 44) rfl rfl Try.func19 (by kernel_rfl) rfl #[.string t401,.slice Ao78 x10_1.length co78] rfl (by (try simp only [List.map_toArray,List.map_cons,List.map_nil]);first | done | rfl | (simp only [List.length_drop,List.length_take];rfl)) ?_;(with_reducible refine (card_Realize.calls t401 _ _ x10_1 t414 _ ?side1 ?side2 A14.out).mono ?_);(case side1=>repeat (first | exact (Kd.R_reads' HO_10.out).2.2 | (with_reducible refine Kd.C_alloc ?_ _) | (with_reducible refine Kd.C_drewN ?_ _) | (with_reducible refine Kd.C_drew ?_)));(case side2=>exact (Kd.R_reads' HO_10.out).2.1);rintro e w79 ⟨rfl,hb⟩;refine ⟨_,rfl,?_⟩;have n0_:=Aside0.mk (Kd.R_below (by (with_reducible repeat (first | apply Kd.R_alloc | apply Kd.R_drewN | apply Kd.R_drew));exact HO_10.out) hb);have n1_:=Aside0.mk (Kd.R_below (by (with_reducible repeat (first | apply Kd.R_alloc | apply Kd.R_drewN | apply Kd.R_drew));exact HO411.out) hb);have n2_:=Aside0.mk (Kd.S_below (by (with_reducible repeat (first | apply Kd.S_alloc | apply Kd.S_drewN | apply Kd.S_drew));exact HO413.out) hb);have n3_:=Aside0.mk (below_step (by repeat (first | (with_reducible first | exact HB.out | apply below_alloc | apply pw_below_drewN | apply below_drew1) | exact HB.out)) hb);clear HO_10;clear HO411;clear HO413;clear HB;have HO_10:=n0_;have HO411:=n1_;have HO413:=n2_;have HB:=n3_;clear n0_ n1_ n2_ n3_;(try clear hb)) | ((with_reducible refine gate_callee (f:=18) rfl ?_);refine goesL_ (some 47) rfl rfl Try.func18 (by kernel_rfl) rfl #[.slice A3 l3.length c3] rfl (by (try simp only [List.map_toArray,List.map_cons,List.map_nil]);first | done | rfl | (simp only [List.length_drop,List.length_take];rfl)) ?_;(with_reducible refine (numnahlaw01_lists.calls k1 _ _ l3 t415 _ ?side1 ?side2 A15.out).mono ?_);(case side1=>repeat (first | exact (Kd.C_below HR3.out HB.out) | (with_reducible refine Kd.C_alloc ?_ _) | (with_reducible refine Kd.C_drewN ?_ _) | (with_reducible refine Kd.C_drew ?_)));(case side2=>exact HC3.out);rintro e w80 ⟨v416,rfl,ho0,hb⟩;refine ⟨_,rfl,?_⟩;have n0_:=Aside0.mk (Kd.R_below (by (with_reducible repeat (first | apply Kd.R_alloc | apply Kd.R_drewN | apply Kd.R_drew));exact HO_10.out) hb);have n1_:=Aside0.mk (Kd.R_below (by (with_reducible repeat (first | apply Kd.R_alloc | apply Kd.R_drewN | apply Kd.R_drew));exact HO411.out) hb);have n2_:=Aside0.mk (Kd.S_elder' (by (with_reducible repeat (first | apply Kd.S_alloc | apply Kd.S_drewN | apply Kd.S_drew));exact HO413.out) (Kd.S_base ho0) hb);have n3_:=Aside0.mk (Kd.S_lower (Kd.S_new' (Kd.S_new' (Kd.S_new' ho0 (Kd.R_lt (by (with_reducible repeat (first | apply Kd.R_alloc | apply Kd.R_drewN | apply Kd.R_drew));exact HO_10.out))) (Kd.R_lt (by (with_reducible repeat (first | apply Kd.R_alloc | apply Kd.R_drewN | apply Kd.R_drew));exact HO411.out))) (Kd.S_lt (by (with_reducible repeat (first | apply Kd.S_alloc | apply Kd.S_drewN | apply Kd.S_drew));exact HO413.out))) (below_size (by repeat (first | (with_reducible first | exact HB.out | apply below_alloc | apply pw_below_drewN | apply below_drew1) | exact HB.out))));have n4_:=Aside0.mk (below_step (by repeat (first | (with_reducible first | exact HB.out | apply below_alloc | apply pw_below_drewN | apply below_drew1) | exact HB.out)) hb);clear HO_10;clear HO411;clear HO413;clear HB;have HO_10:=n0_;have HO411:=n1_;have HO413:=n2_;have HO417:=n3_;have HB:=n4_;clear n0_ n1_ n2_ n3_ n4_;(try clear hb);(try clear ho0);obtain ⟨Ao81,co81,eo81⟩:=Kd.S_slice HO417.out;subst eo81) | ((with_reducible refine gate_callee (f:=20) rfl ?_);refine goesL_ (some 48) rfl rfl Try.func20 (by kernel_rfl) rfl #[.string t401,.slice Ao81 t415.length co81] rfl (by (try simp only [List.map_toArray,List.map_cons,List.map_nil]);first | done | rfl | (simp only [List.length_drop,List.length_take];rfl)) ?_;(with_reducible refine (card_Balance.calls t401 _ _ t415 t418 _ ?side1 ?side2 A16.out).mono ?_);(case side1=>repeat (first | exact (Kd.S_reads' HO417.out).2.2 | (with_reducible refine Kd.C_alloc ?_ _) | (with_reducible refine Kd.C_drewN ?_ _) | (with_reducible refine Kd.C_drew ?_)));(case side2=>exact (Kd.S_reads' HO417.out).2.1);rintro e w82 ⟨rfl,hb⟩;refine ⟨_,rfl,?_⟩;have n0_:=Aside0.mk (Kd.R_below (by (with_reducible repeat (first | apply Kd.R_alloc | apply Kd.R_drewN | apply Kd.R_drew));exact HO_10.out) hb);have n1_:=Aside0.mk (Kd.R_below (by (with_reducible repeat (first | apply Kd.R_alloc | apply Kd.R_drewN | apply Kd.R_drew));exact HO411.out) hb);have n2_:=Aside0.mk (Kd.S_below (by (with_reducible repeat (first | apply Kd.S_alloc | apply Kd.S_drewN | apply Kd.S_drew));exact HO413.out) hb);have n3_:=Aside0.mk (Kd.S_below (by (with_reducible repeat (first | apply Kd.S_alloc | apply Kd.S_drewN | apply Kd.S_drew));exact HO417.out) hb);have n4_:=Aside0.mk (below_step (by repeat (first | (with_reducible first | exact HB.out | apply below_alloc | apply pw_below_drewN | apply below_drew1) | exact HB.out)) hb);clear HO_10;clear HO411;clear HO413;clear HO417;clear HB;have HO_10:=n0_;have HO411:=n1_;have HO413:=n2_;have HO417:=n3_;have HB:=n4_;clear n0_ n1_ n2_ n3_ n4_;(try clear hb);obtain ⟨Ao83,co83,eo83⟩:=Kd.R_slice HO411.out;subst eo83;obtain ⟨Ao84,co84,eo84⟩:=Kd.S_slice HO413.out;subst eo84) | (go_at_call 22;(with_reducible refine (numnahlaw01_awake.calls  t421 _ A76.out).mono ?_);rintro e w85 ⟨rfl,hb⟩;have n0_:=Aside0.mk (Kd.R_below (by (with_reducible repeat (first | apply Kd.R_alloc | apply Kd.R_drewN | apply Kd.R_drew));exact HO_10.out) hb);have n1_:=Aside0.mk (Kd.R_below (by (with_reducible repeat (first | apply Kd.R_alloc | apply Kd.R_drewN | apply Kd.R_drew));exact HO411.out) hb);have n2_:=Aside0.mk (Kd.S_below (by (with_reducible repeat (first | apply Kd.S_alloc | apply Kd.S_drewN | apply Kd.S_drew));exact HO413.out) hb);have n3_:=Aside0.mk (Kd.S_below (by (with_reducible repeat (first | apply Kd.S_alloc | apply Kd.S_drewN | apply Kd.S_drew));exact HO417.out) hb);have n4_:=Aside0.mk (below_step (by repeat (first | (with_reducible first | exact HB.out | apply below_alloc | apply pw_below_drewN | apply below_drew1) | exact HB.out)) hb);clear HO_10;clear HO411;clear HO413;clear HO417;clear HB;have HO_10:=n0_;have HO411:=n1_;have HO413:=n2_;have HO417:=n3_;have HB:=n4_;clear n0_ n1_ n2_ n3_ n4_;(try clear hb)))
    go_ret
    exact ⟨by first | rfl | (simp [errW_none,errW_some] <;> rfl) | (simp [*,errW_none,errW_some] <;> rfl),by repeat (first | (with_reducible first | exact HB.out | apply below_alloc | apply pw_below_drewN | apply below_drew1) | exact HB.out)⟩
   rw [if_pos c56] at H
   have c56b0:(t418 == 0) = true:=beq_iff_eq.mpr c56
   have c56b1:(t418 != 0) = false:=bne_eq_false_iff_eq.mpr c56
   clear c56
   by_cases c57:(t408.length:Int) > 0
   case neg =>
    rw [if_neg c57] at H
    have c57b0:decide (0 < (t408.length:Int)) = false:=decide_eq_false c57
    have c57b1:decide (0 < t408.length) = false:=decide_eq_false (by omega)
    clear c57
    obtain rfl:=Option.some.inj H
    go_wp2_with (first | ((with_reducible refine gate_callee (f:=44) rfl ?_);refine goesL_ (some 38) rfl rfl Try.func44 (by kernel_rfl) rfl #[.string t401] rfl (by (try simp only [List.map_toArray,List.map_cons,List.map_nil]);first | done | rfl | (simp only [List.length_drop,List.length_take];rfl)) ?_;(with_reducible refine (card_Weights.calls t401 t407 t408 t409 _ A13.out).mono ?_);rintro e w68 ⟨v410,v412,rfl,ho0,ho1,hb⟩;refine ⟨_,rfl,?_⟩;have n0_:=Aside0.mk (Kd.R_elder' (by (with_reducible repeat (first | apply Kd.R_alloc | apply Kd.R_drewN | apply Kd.R_drew));exact HO_10.out) (Kd.R_base ho0) hb);have n1_:=Aside0.mk (Kd.R_lower (Kd.R_new' ho0 (Kd.R_lt (by (with_reducible repeat (first | apply Kd.R_alloc | apply Kd.R_drewN | apply Kd.R_drew));exact HO_10.out))) (below_size (by repeat (first | (with_reducible first | exact HB.out | apply below_alloc | apply pw_below_drewN | apply below_drew1) | exact HB.out))));have n2_:=Aside0.mk (Kd.S_lower (Kd.S_new' ho1 (Kd.R_lt (by (with_reducible repeat (first | apply Kd.R_alloc | apply Kd.R_drewN | apply Kd.R_drew));exact HO_10.out))) (below_size (by repeat (first | (with_reducible first | exact HB.out | apply below_alloc | apply pw_below_drewN | apply below_drew1) | exact HB.out))));have n3_:=Aside0.mk (below_step (by repeat (first | (with_reducible first | exact HB.out | apply below_alloc | apply pw_below_drewN | apply below_drew1) | exact HB.out)) hb);clear HO_10;clear HB;have HO_10:=n0_;have HO411:=n1_;have HO413:=n2_;have HB:=n3_;clear n0_ n1_ n2_ n3_;(try clear hb);(try clear ho0);(try clear ho1);obtain ⟨Ao69,co69,eo69⟩:=Kd.R_slice HO_10.out;subst eo69) | ((with_reducible refine gate_callee (f:=19) rfl ?_);refine goesL_ (some 44) rfl rfl Try.func19 (by kernel_rfl) rfl #[.string t401,.slice Ao69 x10_1.length co69] rfl (by (try simp only [List.map_toArray,List.map_cons,List.map_nil]);first | done | rfl | (simp only [List.length_drop,List.length_take];rfl)) ?_;(with_reducible refine (card_Realize.calls t401 _ _ x10_1 t414 _ ?side1 ?side2 A14.out).mono ?_);(case side1=>repeat (first | exact (Kd.R_reads' HO_10.out).2.2 | (with_reducible refine Kd.C_alloc ?_ _) | (with_reducible refine Kd.C_drewN ?_ _) | (with_reducible refine Kd.C_drew ?_)));(case side2=>exact (Kd.R_reads' HO_10.out).2.1);rintro e w70 ⟨rfl,hb⟩;refine ⟨_,rfl,?_⟩;have n0_:=Aside0.mk (Kd.R_below (by (with_reducible repeat (first | apply Kd.R_alloc | apply Kd.R_drewN | apply Kd.R_drew));exact HO_10.out) hb);have n1_:=Aside0.mk (Kd.R_below (by (with_reducible repeat (first | apply Kd.R_alloc | apply Kd.R_drewN | apply Kd.R_drew));exact HO411.out) hb);have n2_:=Aside0.mk (Kd.S_below (by (with_reducible repeat (first | apply Kd.S_alloc | apply Kd.S_drewN | apply Kd.S_drew));exact HO413.out) hb);have n3_:=Aside0.mk (below_step (by repeat (first | (with_reducible first | exact HB.out | apply below_alloc | apply pw_below_drewN | apply below_drew1) | exact HB.out)) hb);clear HO_10;clear HO411;clear HO413;clear HB;have HO_10:=n0_;have HO411:=n1_;have HO413:=n2_;have HB:=n3_;clear n0_ n1_ n2_ n3_;(try clear hb)) | ((with_reducible refine gate_callee (f:=18) rfl ?_);refine goesL_ (some 47) rfl rfl Try.func18 (by kernel_rfl) rfl #[.slice A3 l3.length c3] rfl (by (try simp only [List.map_toArray,List.map_cons,List.map_nil]);first | done | rfl | (simp only [List.length_drop,List.length_take];rfl)) ?_;(with_reducible refine (numnahlaw01_lists.calls k1 _ _ l3 t415 _ ?side1 ?side2 A15.out).mono ?_);(case side1=>repeat (first | exact (Kd.C_below HR3.out HB.out) | (with_reducible refine Kd.C_alloc ?_ _) | (with_reducible refine Kd.C_drewN ?_ _) | (with_reducible refine Kd.C_drew ?_)));(case side2=>exact HC3.out);rintro e w71 ⟨v416,rfl,ho0,hb⟩;refine ⟨_,rfl,?_⟩;have n0_:=Aside0.mk (Kd.R_below (by (with_reducible repeat (first | apply Kd.R_alloc | apply Kd.R_drewN | apply Kd.R_drew));exact HO_10.out) hb);have n1_:=Aside0.mk (Kd.R_below (by (with_reducible repeat (first | apply Kd.R_alloc | apply Kd.R_drewN | apply Kd.R_drew));exact HO411.out) hb);have n2_:=Aside0.mk (Kd.S_elder' (by (with_reducible repeat (first | apply Kd.S_alloc | apply Kd.S_drewN | apply Kd.S_drew));exact HO413.out) (Kd.S_base ho0) hb);have n3_:=Aside0.mk (Kd.S_lower (Kd.S_new' (Kd.S_new' (Kd.S_new' ho0 (Kd.R_lt (by (with_reducible repeat (first | apply Kd.R_alloc | apply Kd.R_drewN | apply Kd.R_drew));exact HO_10.out))) (Kd.R_lt (by (with_reducible repeat (first | apply Kd.R_alloc | apply Kd.R_drewN | apply Kd.R_drew));exact HO411.out))) (Kd.S_lt (by (with_reducible repeat (first | apply Kd.S_alloc | apply Kd.S_drewN | apply Kd.S_drew));exact HO413.out))) (below_size (by repeat (first | (with_reducible first | exact HB.out | apply below_alloc | apply pw_below_drewN | apply below_drew1) | exact HB.out))));have n4_:=Aside0.mk (below_step (by repeat (first | (with_reducible first | exact HB.out | apply below_alloc | apply pw_below_drewN | apply below_drew1) | exact HB.out)) hb);clear HO_10;clear HO411;clear HO413;clear HB;have HO_10:=n0_;have HO411:=n1_;have HO413:=n2_;have HO417:=n3_;have HB:=n4_;clear n0_ n1_ n2_ n3_ n4_;(try clear hb);(try clear ho0);obtain ⟨Ao72,co72,eo72⟩:=Kd.S_slice HO417.out;subst eo72) | ((with_reducible refine gate_callee (f:=20) rfl ?_);refine goesL_ (some 48) rfl rfl Try.func20 (by kernel_rfl) rfl #[.string t401,.slice Ao72 t415.length co72] rfl (by (try simp only [List.map_toArray,List.map_cons,List.map_nil]);first | done | rfl | (simp only [List.length_drop,List.length_take];rfl)) ?_;(with_reducible refine (card_Balance.calls t401 _ _ t415 t418 _ ?side1 ?side2 A16.out).mono ?_);(case side1=>repeat (first | exact (Kd.S_reads' HO417.out).2.2 | (with_reducible refine Kd.C_alloc ?_ _) | (with_reducible refine Kd.C_drewN ?_ _) | (with_reducible refine Kd.C_drew ?_)));(case side2=>exact (Kd.S_reads' HO417.out).2.1);rintro e w73 ⟨rfl,hb⟩;refine ⟨_,rfl,?_⟩;have n0_:=Aside0.mk (Kd.R_below (by (with_reducible repeat (first | apply Kd.R_alloc | apply Kd.R_drewN | apply Kd.R_drew));exact HO_10.out) hb);have n1_:=Aside0.mk (Kd.R_below (by (with_reducible repeat (first | apply Kd.R_alloc | apply Kd.R_drewN | apply Kd.R_drew));exact HO411.out) hb);have n2_:=Aside0.mk (Kd.S_below (by (with_reducible repeat (first | apply Kd.S_alloc | apply Kd.S_drewN | apply Kd.S_drew));exact HO413.out) hb);have n3_:=Aside0.mk (Kd.S_below (by (with_reducible repeat (first | apply Kd.S_alloc | apply Kd.S_drewN | apply Kd.S_drew));exact HO417.out) hb);have n4_:=Aside0.mk (below_step (by repeat (first | (with_reducible first | exact HB.out | apply below_alloc | apply pw_below_drewN | apply below_drew1) | exact HB.out)) hb);clear HO_10;clear HO411;clear HO413;clear HO417;clear HB;have HO_10:=n0_;have HO411:=n1_;have HO413:=n2_;have HO417:=n3_;have HB:=n4_;clear n0_ n1_ n2_ n3_ n4_;(try clear hb);obtain ⟨Ao74,co74,eo74⟩:=Kd.R_slice HO411.out;subst eo74;obtain ⟨Ao75,co75,eo75⟩:=Kd.S_slice HO413.out;subst eo75))
    go_ret
    exact ⟨by first | rfl | (simp [errW_none,errW_some] <;> rfl) | (simp [*,errW_none,errW_some] <;> rfl),by repeat (first | (with_reducible first | exact HB.out | apply below_alloc | apply pw_below_drewN | apply below_drew1) | exact HB.out)⟩
   rw [if_pos c57] at H
   have c57b0:decide (0 < (t408.length:Int)) = true:=decide_eq_true c57
   have c57b1:decide (0 < t408.length) = true:=decide_eq_true (by omega)
   clear c57
   replace H:=Option.bind_eq_some_iff.mp H
   obtain ⟨t420,A580,H⟩:=H
   replace H:(some t420) = some r:=H
   have A58:=Aside0.mk A580
   clear A580
   obtain rfl:=Option.some.inj H
   go_wp2_with (first | ((with_reducible refine gate_callee (f:=44) rfl ?_);refine goesL_ (some 38) rfl rfl Try.func44 (by kernel_rfl) rfl #[.string t401] rfl (by (try simp only [List.map_toArray,List.map_cons,List.map_nil]);first | done | rfl | (simp only [List.length_drop,List.length_take];rfl)) ?_;(with_reducible refine (card_Weights.calls t401 t407 t408 t409 _ A13.out).mono ?_);rintro e w59 ⟨v410,v412,rfl,ho0,ho1,hb⟩;refine ⟨_,rfl,?_⟩;have n0_:=Aside0.mk (Kd.R_elder' (by (with_reducible repeat (first | apply Kd.R_alloc | apply Kd.R_drewN | apply Kd.R_drew));exact HO_10.out) (Kd.R_base ho0) hb);have n1_:=Aside0.mk (Kd.R_lower (Kd.R_new' ho0 (Kd.R_lt (by (with_reducible repeat (first | apply Kd.R_alloc | apply Kd.R_drewN | apply Kd.R_drew));exact HO_10.out))) (below_size (by repeat (first | (with_reducible first | exact HB.out | apply below_alloc | apply pw_below_drewN | apply below_drew1) | exact HB.out))));have n2_:=Aside0.mk (Kd.S_lower (Kd.S_new' ho1 (Kd.R_lt (by (with_reducible repeat (first | apply Kd.R_alloc | apply Kd.R_drewN | apply Kd.R_drew));exact HO_10.out))) (below_size (by repeat (first | (with_reducible first | exact HB.out | apply below_alloc | apply pw_below_drewN | apply below_drew1) | exact HB.out))));have n3_:=Aside0.mk (below_step (by repeat (first | (with_reducible first | exact HB.out | apply below_alloc | apply pw_below_drewN | apply below_drew1) | exact HB.out)) hb);clear HO_10;clear HB;have HO_10:=n0_;have HO411:=n1_;have HO413:=n2_;have HB:=n3_;clear n0_ n1_ n2_ n3_;(try clear hb);(try clear ho0);(try clear ho1);obtain ⟨Ao60,co60,eo60⟩:=Kd.R_slice HO_10.out;subst eo60) | ((with_reducible refine gate_callee (f:=19) rfl ?_);refine goesL_ (some 44) rfl rfl Try.func19 (by kernel_rfl) rfl #[.string t401,.slice Ao60 x10_1.length co60] rfl (by (try simp only [List.map_toArray,List.map_cons,List.map_nil]);first | done | rfl | (simp only [List.length_drop,List.length_take];rfl)) ?_;(with_reducible refine (card_Realize.calls t401 _ _ x10_1 t414 _ ?side1 ?side2 A14.out).mono ?_);(case side1=>repeat (first | exact (Kd.R_reads' HO_10.out).2.2 | (with_reducible refine Kd.C_alloc ?_ _) | (with_reducible refine Kd.C_drewN ?_ _) | (with_reducible refine Kd.C_drew ?_)));(case side2=>exact (Kd.R_reads' HO_10.out).2.1);rintro e w61 ⟨rfl,hb⟩;refine ⟨_,rfl,?_⟩;have n0_:=Aside0.mk (Kd.R_below (by (with_reducible repeat (first | apply Kd.R_alloc | apply Kd.R_drewN | apply Kd.R_drew));exact HO_10.out) hb);have n1_:=Aside0.mk (Kd.R_below (by (with_reducible repeat (first | apply Kd.R_alloc | apply Kd.R_drewN | apply Kd.R_drew));exact HO411.out) hb);have n2_:=Aside0.mk (Kd.S_below (by (with_reducible repeat (first | apply Kd.S_alloc | apply Kd.S_drewN | apply Kd.S_drew));exact HO413.out) hb);have n3_:=Aside0.mk (below_step (by repeat (first | (with_reducible first | exact HB.out | apply below_alloc | apply pw_below_drewN | apply below_drew1) | exact HB.out)) hb);clear HO_10;clear HO411;clear HO413;clear HB;have HO_10:=n0_;have HO411:=n1_;have HO413:=n2_;have HB:=n3_;clear n0_ n1_ n2_ n3_;(try clear hb)) | ((with_reducible refine gate_callee (f:=18) rfl ?_);refine goesL_ (some 47) rfl rfl Try.func18 (by kernel_rfl) rfl #[.slice A3 l3.length c3] rfl (by (try simp only [List.map_toArray,List.map_cons,List.map_nil]);first | done | rfl | (simp only [List.length_drop,List.length_take];rfl)) ?_;(with_reducible refine (numnahlaw01_lists.calls k1 _ _ l3 t415 _ ?side1 ?side2 A15.out).mono ?_);(case side1=>repeat (first | exact (Kd.C_below HR3.out HB.out) | (with_reducible refine Kd.C_alloc ?_ _) | (with_reducible refine Kd.C_drewN ?_ _) | (with_reducible refine Kd.C_drew ?_)));(case side2=>exact HC3.out);rintro e w62 ⟨v416,rfl,ho0,hb⟩;refine ⟨_,rfl,?_⟩;have n0_:=Aside0.mk (Kd.R_below (by (with_reducible repeat (first | apply Kd.R_alloc | apply Kd.R_drewN | apply Kd.R_drew));exact HO_10.out) hb);have n1_:=Aside0.mk (Kd.R_below (by (with_reducible repeat (first | apply Kd.R_alloc | apply Kd.R_drewN | apply Kd.R_drew));exact HO411.out) hb);have n2_:=Aside0.mk (Kd.S_elder' (by (with_reducible repeat (first | apply Kd.S_alloc | apply Kd.S_drewN | apply Kd.S_drew));exact HO413.out) (Kd.S_base ho0) hb);have n3_:=Aside0.mk (Kd.S_lower (Kd.S_new' (Kd.S_new' (Kd.S_new' ho0 (Kd.R_lt (by (with_reducible repeat (first | apply Kd.R_alloc | apply Kd.R_drewN | apply Kd.R_drew));exact HO_10.out))) (Kd.R_lt (by (with_reducible repeat (first | apply Kd.R_alloc | apply Kd.R_drewN | apply Kd.R_drew));exact HO411.out))) (Kd.S_lt (by (with_reducible repeat (first | apply Kd.S_alloc | apply Kd.S_drewN | apply Kd.S_drew));exact HO413.out))) (below_size (by repeat (first | (with_reducible first | exact HB.out | apply below_alloc | apply pw_below_drewN | apply below_drew1) | exact HB.out))));have n4_:=Aside0.mk (below_step (by repeat (first | (with_reducible first | exact HB.out | apply below_alloc | apply pw_below_drewN | apply below_drew1) | exact HB.out)) hb);clear HO_10;clear HO411;clear HO413;clear HB;have HO_10:=n0_;have HO411:=n1_;have HO413:=n2_;have HO417:=n3_;have HB:=n4_;clear n0_ n1_ n2_ n3_ n4_;(try clear hb);(try clear ho0);obtain ⟨Ao63,co63,eo63⟩:=Kd.S_slice HO417.out;subst eo63) | ((with_reducible refine gate_callee (f:=20) rfl ?_);refine goesL_ (some 48) rfl rfl Try.func20 (by kernel_rfl) rfl #[.string t401,.slice Ao63 t415.length co63] rfl (by (try simp only [List.map_toArray,List.map_cons,List.map_nil]);first | done | rfl | (simp only [List.length_drop,List.length_take];rfl)) ?_;(with_reducible refine (card_Balance.calls t401 _ _ t415 t418 _ ?side1 ?side2 A16.out).mono ?_);(case side1=>repeat (first | exact (Kd.S_reads' HO417.out).2.2 | (with_reducible refine Kd.C_alloc ?_ _) | (with_reducible refine Kd.C_drewN ?_ _) | (with_reducible refine Kd.C_drew ?_)));(case side2=>exact (Kd.S_reads' HO417.out).2.1);rintro e w64 ⟨rfl,hb⟩;refine ⟨_,rfl,?_⟩;have n0_:=Aside0.mk (Kd.R_below (by (with_reducible repeat (first | apply Kd.R_alloc | apply Kd.R_drewN | apply Kd.R_drew));exact HO_10.out) hb);have n1_:=Aside0.mk (Kd.R_below (by (with_reducible repeat (first | apply Kd.R_alloc | apply Kd.R_drewN | apply Kd.R_drew));exact HO411.out) hb);have n2_:=Aside0.mk (Kd.S_below (by (with_reducible repeat (first | apply Kd.S_alloc | apply Kd.S_drewN | apply Kd.S_drew));exact HO413.out) hb);have n3_:=Aside0.mk (Kd.S_below (by (with_reducible repeat (first | apply Kd.S_alloc | apply Kd.S_drewN | apply Kd.S_drew));exact HO417.out) hb);have n4_:=Aside0.mk (below_step (by repeat (first | (with_reducible first | exact HB.out | apply below_alloc | apply pw_below_drewN | apply below_drew1) | exact HB.out)) hb);clear HO_10;clear HO411;clear HO413;clear HO417;clear HB;have HO_10:=n0_;have HO411:=n1_;have HO413:=n2_;have HO417:=n3_;have HB:=n4_;clear n0_ n1_ n2_ n3_ n4_;(try clear hb);obtain ⟨Ao65,co65,eo65⟩:=Kd.R_slice HO411.out;subst eo65;obtain ⟨Ao66,co66,eo66⟩:=Kd.S_slice HO413.out;subst eo66) | (go_at_call 22;(with_reducible refine (numnahlaw01_awake.calls  t420 _ A58.out).mono ?_);rintro e w67 ⟨rfl,hb⟩;have n0_:=Aside0.mk (Kd.R_below (by (with_reducible repeat (first | apply Kd.R_alloc | apply Kd.R_drewN | apply Kd.R_drew));exact HO_10.out) hb);have n1_:=Aside0.mk (Kd.R_below (by (with_reducible repeat (first | apply Kd.R_alloc | apply Kd.R_drewN | apply Kd.R_drew));exact HO411.out) hb);have n2_:=Aside0.mk (Kd.S_below (by (with_reducible repeat (first | apply Kd.S_alloc | apply Kd.S_drewN | apply Kd.S_drew));exact HO413.out) hb);have n3_:=Aside0.mk (Kd.S_below (by (with_reducible repeat (first | apply Kd.S_alloc | apply Kd.S_drewN | apply Kd.S_drew));exact HO417.out) hb);have n4_:=Aside0.mk (below_step (by repeat (first | (with_reducible first | exact HB.out | apply below_alloc | apply pw_below_drewN | apply below_drew1) | exact HB.out)) hb);clear HO_10;clear HO411;clear HO413;clear HO417;clear HB;have HO_10:=n0_;have HO411:=n1_;have HO413:=n2_;have HO417:=n3_;have HB:=n4_;clear n0_ n1_ n2_ n3_ n4_;(try clear hb)))
   go_ret
   exact ⟨by first | rfl | (simp [errW_none,errW_some] <;> rfl) | (simp [*,errW_none,errW_some] <;> rfl),by repeat (first | (with_reducible first | exact HB.out | apply below_alloc | apply pw_below_drewN | apply below_drew1) | exact HB.out)⟩
end Go.Proofs.Ythpahlkhiknofaa.G
set_option linter.unusedSectionVars false
namespace Go.Proofs.Ythpahlkhiknofaa.P
open Go Go.RowKit Go.Proofs.Ythpahlkhiknofaa.M Go.Proofs.Ythpahlkhiknofaa.G Go.Proofs.Ythpahlkhiknofaa.H
open Go.Proofs.YthpahlkhiknofaaW.PrintWords Go.Proofs.YthpahlkhiknofaaW.PrintMore
def sW (w:List Int) (i:Nat):List Int → Int
 | []=>0
 | p :: r=>wsum w p.toNat i + sW w i r
theorem sW_zero (w:List Int):∀ l,sW w 0 l = 0
 | []=>rfl
 | p :: r=>by rw [sW,sW_zero w r];rfl
theorem sW_succ (w:List Int) (i:Nat):∀ l,sW w (i + 1) l = sW w i l + rd w (i:Int) * cnt i l
 | []=>by simp [sW,cnt]
 | p :: r=>by
  rw [sW,sW,cnt,sW_succ w i r,wsum,Int.mul_add];omega
theorem sW_same (w:List Int) {n:Nat} {a b:List Int} (h:∀ v,v < n → cnt v a = cnt v b):∀ i,i ≤ n → sW w i a = sW w i b
 | 0,_=>by rw [sW_zero,sW_zero]
 | i + 1,hi=>by rw [sW_succ,sW_succ,sW_same w h i (by omega),h i (by omega)]
theorem sW_ge {w:List Int} {n:Nat} {t:Int}:∀ l:List Int,(∀ p ∈ l,t ≤ wsum w p.toNat n) → (l.length:Int) * t ≤ sW w n l
 | [],_=>by simp [sW]
 | p :: r,h=>by
  have h1:=h p (by simp)
  have h2:=sW_ge r fun q hq=>h q (by simp [hq])
  rw [sW,List.length_cons,Int.natCast_add,Int.add_mul];omega
theorem sW_le {w:List Int} {n:Nat} {t:Int}:∀ l:List Int,(∀ p ∈ l,wsum w p.toNat n ≤ t) → sW w n l ≤ (l.length:Int) * t
 | [],_=>by simp [sW]
 | p :: r,h=>by
  have h1:=h p (by simp)
  have h2:=sW_le r fun q hq=>h q (by simp [hq])
  rw [sW,List.length_cons,Int.natCast_add,Int.add_mul];omega
theorem no_both {c:ByteArray} {n:Nat} {w:List Int} (hw:allF (okR c w n) c.size 0 = true) {ls:List (List Int)} (hb:isBal c n ls = true):False:=by
 unfold isBal at hb
 simp only [Bool.and_eq_true,decide_eq_true_eq] at hb
 obtain ⟨⟨_,hl,h1,_⟩,a0,a1,hs⟩:=hb
 obtain ⟨a,ha⟩:∃ a,rd_L3 ls 0 = a:=⟨_,rfl⟩
 obtain ⟨b,hbb⟩:∃ b,rd_L3 ls 1 = b:=⟨_,rfl⟩
 rw [ha,hbb] at hl hs
 rw [ha] at h1 a0
 rw [hbb] at a1
 unfold sameB at hs
 rw [allF_iff] at hs
 have hc:∀ v,v < n → cnt v a = cnt v b:=fun v hv=>by
  have:=of_decide_eq_true (hs v (by omega) (by omega))
  omega
 have e:=sW_same w hc n (Nat.le_refl _)
 have hok:∀ p:Nat,p < c.size → (decide (wsum w p n ≥ rd w (n:Int)) == (bt c (p:Int) == 49)) = true:=fun p hp=>(allF_iff _ _ _).1 hw p (by omega) (by omega)
 have g1:=sW_ge (w:=w) (n:=n) (t:=rd w (n:Int)) a fun p hp=>by
  have h:=of_decide_eq_true (List.all_eq_true.1 a0 p hp)
  obtain ⟨q,rfl⟩:∃ q:Nat,p = (q:Int):=⟨p.toNat,by omega⟩
  have h49:bt c (q:Int) = 49:=h.2.trans rfl
  have ho:=hok q (by omega)
  rw [h49] at ho
  rw [Int.toNat_natCast]
  by_cases hd:wsum w q n ≥ rd w (n:Int)
  ·exact hd
  ·rw [decide_eq_false hd] at ho;cases ho
 have g2:=sW_le (w:=w) (n:=n) (t:=rd w (n:Int) - 1) b fun p hp=>by
  have h:=of_decide_eq_true (List.all_eq_true.1 a1 p hp)
  obtain ⟨q,rfl⟩:∃ q:Nat,p = (q:Int):=⟨p.toNat,by omega⟩
  have h48:bt c (q:Int) = 48:=h.2.trans rfl
  have ho:=hok q (by omega)
  rw [h48] at ho
  rw [Int.toNat_natCast]
  by_cases hd:wsum w q n ≥ rd w (n:Int)
  ·rw [decide_eq_true hd] at ho;cases ho
  ·omega
 rw [← hl,← e,Int.mul_sub,Int.mul_one] at g2
 omega
theorem once_end {c:ByteArray} {n:Nat} (hc:c.size ≤ 40) (ht:totB c = true) (hn:fnN c = n) (h5:n ≤ 5) (l2:List Int) (l3:List (List Int)) {w:List Int} (hw:w.length = n + 1) (hb:∀ x ∈ w,-20 ≤ x ∧ x ≤ 20):Ev (fun k=>numnahlaw01_CardOnce.l0 k (n:Int) l2 l3 c w ((n + 1:Nat):Int)) true:=by
 subst hn
 obtain ⟨ls,hls,els⟩:=lists_ev l3
 have hbad:bad60 w = false:=by
  unfold bad60
  rw [List.any_eq_false]
  intro x hx
  have:=hb x hx
  simp;omega
 have eR:=realize_f (l:=w) hc (by omega)
 rw [if_pos ht,if_pos ⟨hw,hbad⟩] at eR
 have eB:=balance_f (ls:=ls) hc hls
 rw [if_pos ht] at eB
 have aw:∀ x:Option Bool,x = some true → Ev (fun _:Nat=>x) true:=fun x hx=>by rw [hx];exact Ev.now _
 rcases weights_yes hc ht with ⟨ws,ew,g⟩ | ⟨bs,ew,h2,hbal⟩
 ·have hnb:¬ isBal c (fnN c) ls = true:=fun h=>no_both g.2.2 h
  rw [if_neg hnb] at eB
  have hg1:=g.1
  refine Ev.step (fun k=>by rw [numnahlaw01_CardOnce.l0,if_neg (by omega),ew,Option.bind_some,eR,Option.bind_some]) (Ev.bind els ?_)
  rw [eB]
  refine Ev.congr (fun k=>Option.bind_some _ _) (Ev.congr (fun k=>if_pos rfl) (Ev.congr (fun k=>if_neg ?_) ?_))
  ·show ¬ ((((ws.length:Nat):Int) == 0) == ((([]:List (List Int)).length:Int) == 0)) = true
   rw [show (((ws.length:Nat):Int) == 0) = false from beq_eq_false_iff_ne.2 (by omega)];decide
  ·by_cases ho:allF (okR c w (fnN c)) c.size 0 = true
   ·rw [if_pos ho]
    exact Ev.congr (fun k=>if_pos rfl) (Ev.congr (fun k=>if_neg (by decide)) (Ev.congr (fun k=>if_neg (by show ¬ ((ws.length:Int) = 0);omega)) ev_aw))
   ·rw [if_neg ho]
    exact Ev.congr (fun k=>if_neg (by decide)) (Ev.congr (fun k=>if_neg (by decide)) ev_aw)
 ·have hno:¬ allF (okR c w (fnN c)) c.size 0 = true:=fun h=>no_both h hbal
  rw [if_neg hno] at eR
  refine Ev.step (fun k=>by rw [numnahlaw01_CardOnce.l0,if_neg (by omega),ew,Option.bind_some,eR,Option.bind_some]) (Ev.bind els ?_)
  rw [eB]
  refine Ev.congr (fun k=>Option.bind_some _ _) (Ev.congr (fun k=>if_pos rfl) (Ev.congr (fun k=>if_neg ?_) (Ev.congr (fun k=>if_neg (by decide)) ?_)))
  ·show ¬ (((([]:List Int).length:Int) == 0) == (((bs.length:Nat):Int) == 0)) = true
   rw [show (((bs.length:Nat):Int) == 0) = false from beq_eq_false_iff_ne.2 (by omega)];decide
  ·by_cases hi:isBal c (fnN c) ls = true
   ·rw [if_pos hi]
    exact Ev.congr (fun k=>if_pos rfl) (Ev.congr (fun k=>if_pos (by show (bs.length:Int) > 0;omega)) ev_aw)
   ·rw [if_neg hi]
    exact Ev.congr (fun k=>if_neg (by decide)) ev_aw
theorem once_l0 {c:ByteArray} {n:Nat} (hc:c.size ≤ 40) (ht:totB c = true) (hn:fnN c = n) (h5:n ≤ 5) (l2:List Int) (l3:List (List Int)):∀ d i (w:List Int),i + d = n + 1 → w.length = i → (∀ x ∈ w,-20 ≤ x ∧ x ≤ 20) → Ev (fun k=>numnahlaw01_CardOnce.l0 k (n:Int) l2 l3 c w (i:Int)) true:=by
 intro d
 induction d with
 | zero =>
  intro i w hi hl hb
  obtain rfl:i = n + 1:=by omega
  exact once_end hc ht hn h5 l2 l3 hl hb
 | succ d ih =>
  intro i w hi hl hb
  obtain ⟨x,hx⟩:∃ x,numnahlaw01_at.f l2 (i:Int) = some x:=by
   unfold numnahlaw01_at.f
   by_cases h:(i:Int) < (l2.length:Int)
   ·exact ⟨_,by rw [if_pos h,if_pos (by omega)]⟩
   ·exact ⟨_,by rw [if_neg h]⟩
  obtain ⟨m,m0,m5,em⟩:=mod_some x (n:=41) (by decide) (by decide)
  have hw:wrap64 (m - 20) = m - 20:=wrap_id (by omega) (by omega)
  refine Ev.step (fun k=>?_) (ih (i + 1) (w ++ [m - 20]) (by omega) (by rw [List.length_append,hl];rfl) (fun y hy=>?_))
  ·rw [numnahlaw01_CardOnce.l0,if_pos (by omega),hx,Option.bind_some,em,Option.bind_some,if_pos (by omega),hw,wrap_succ (by omega)]
  ·rcases List.mem_append.1 hy with h | h
   ·exact hb y h
   ·obtain rfl:=List.mem_singleton.1 h
    omega
theorem once_pure (a0:Int) (a1:ByteArray) (w1:a1.size ≤ 140737488351232) (l2:List Int) (l3:List (List Int)):∃ k,numnahlaw01_CardOnce.f k a0 a1 l2 l3 = some true:=by
 refine Ev.rounds ?_
 unfold numnahlaw01_CardOnce.f
 obtain ⟨m,m0,m5,em⟩:=mod_some a0 (n:=5) (by decide) (by decide)
 obtain ⟨n,rfl⟩:∃ k:Nat,m = (k:Int):=⟨m.toNat,by omega⟩
 rw [em]
 have hw:wrap64 (1 + (n:Int)) = ((n + 1:Nat):Int):=by rw [wrap_id (by omega) (by omega)];omega
 simp only [Option.bind_some,hw]
 obtain ⟨c,hc1,hc2,hc3,hc4,hev⟩:=ev_function a1 w1 (n:=n + 1) (by omega) (by omega)
 exact Ev.bind hev (once_l0 hc3 hc1 hc2 (by omega) l2 l3 (n + 2) 0 [] (by omega) rfl (fun x hx=>by cases hx))
end Go.Proofs.Ythpahlkhiknofaa.P
