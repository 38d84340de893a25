/- Several texts, joined. -/
import Derived.Test.YthpahlkhiknofaaQMeasured1
set_option linter.unusedVariables false
set_option linter.unusedSimpArgs false
set_option linter.unusedSectionVars false
namespace Go.Proofs.Ythpahlkhiknofaa.P
open Go Go.RowKit Go.Proofs.Ythpahlkhiknofaa.M Go.Proofs.Ythpahlkhiknofaa.G
open Go.Proofs.YthpahlkhiknofaaW.PrintWords Go.Proofs.YthpahlkhiknofaaW.PrintMore
theorem mod_some (x:Int) {n:Int} (h0:0 < n) (h1:n ≤ 9223372036854775807):∃ m,0 ≤ m ∧ m < n ∧ numnahlaw01_mod.f x n = some m:=by
  unfold numnahlaw01_mod.f
  have hn:IntKind.u64.wrap n = n:=by
    obtain ⟨k,rfl⟩:∃ k:Nat,n = (k:Int):=⟨n.toNat,by omega⟩
    exact wrap_u64_nat k (by omega)
  have hx:0 ≤ IntKind.u64.wrap x:=by
    simp only [IntKind.wrap,IntKind.bits,IntKind.signed]
    simp
    omega
  rw [hn,if_neg (by omega),Int.tmod_eq_emod_of_nonneg hx]
  have:=Int.emod_nonneg (IntKind.u64.wrap x) (show n ≠ 0 by omega)
  have:=Int.emod_lt_of_pos (IntKind.u64.wrap x) h0
  exact ⟨_,by omega,by omega,by rw [wrap_id (by omega) (by omega)]⟩
theorem bytes01:bt (⟨#[48,49,45]⟩:ByteArray) 0 = 48 ∧ bt (⟨#[48,49,45]⟩:ByteArray) 1 = 49:=by constructor <;> decide +kernel
theorem func_l0 (s:ByteArray) (hs:s.size ≤ 140737488351232) {n:Nat} (h1:1 ≤ n) (h5:n ≤ 5):∀ d i (x:List Int),i + d = 2 ^ n → x.length = i → (∀ y ∈ x,y = 48 ∨ y = 49) → ∃ z:List Int,z.length = 2 ^ n ∧ (∀ y ∈ z,y = 48 ∨ y = 49) ∧ Ev (fun k=>numnahlaw01_function.l0 k s (n:Int) 2 x (i:Int)) (strOfNums z):=by
  have h32:2 ^ n ≤ 2 ^ 5:=Nat.pow_le_pow_right (by decide) h5
  intro d
  induction d with
  | zero =>
    intro i x hi hx hv
    refine ⟨x,by omega,hv,Ev.step (f:=fun _=>some (strOfNums x)) (fun k=>?_) (Ev.now _)⟩
    rw [numnahlaw01_function.l0,if_pos (by omega),shl_one (by omega),if_neg (by omega)]
  | succ d ih =>
    intro i x hi hx hv
    have nx:∀ y:Int,(y = 48 ∨ y = 49) → ∃ z:List Int,z.length = 2 ^ n ∧ (∀ y ∈ z,y = 48 ∨ y = 49) ∧ Ev (fun k=>numnahlaw01_function.l0 k s (n:Int) 2 (x ++ [y]) ((i + 1:Nat):Int)) (strOfNums z):=fun y hy=>ih (i + 1) (x ++ [y]) (by omega) (by rw [List.length_append,hx];rfl) (fun a ha=>by
      rcases List.mem_append.1 ha with ha | ha
      · exact hv a ha
      · rw [List.mem_singleton.1 ha];exact hy)
    by_cases his:(i:Int) < (s.size:Int)
    · have hb:=bt_range s (i:Int)
      have hw:wrap64 (bt s (i:Int)) = bt s (i:Int):=wrap_id (by omega) (by omega)
      have ht:Int.tmod (bt s (i:Int)) 2 = bt s (i:Int) % 2:=Int.tmod_eq_emod_of_nonneg hb.1
      have hm:bt s (i:Int) % 2 = 0 ∨ bt s (i:Int) % 2 = 1:=by omega
      have st:∀ k,numnahlaw01_function.l0 (k + 1) s (n:Int) 2 x (i:Int) = numnahlaw01_function.l0 k s (n:Int) 2 (x ++ [bt (⟨#[48,49,45]⟩:ByteArray) (bt s (i:Int) % 2)]) ((i + 1:Nat):Int):=fun k=>by
        rw [numnahlaw01_function.l0,if_pos (by omega),shl_one (by omega),if_pos (by omega),if_pos his,if_pos (by omega),if_neg (by decide),hw,ht,if_pos (by omega),if_pos (by omega),if_pos (by omega),wrap_succ (by omega)]
      rcases hm with h | h
      · rw [h,bytes01.1] at st
        obtain ⟨z,z1,z2,z3⟩:=nx 48 (.inl rfl)
        exact ⟨z,z1,z2,Ev.step st z3⟩
      · rw [h,bytes01.2] at st
        obtain ⟨z,z1,z2,z3⟩:=nx 49 (.inr rfl)
        exact ⟨z,z1,z2,Ev.step st z3⟩
    · obtain ⟨z,z1,z2,z3⟩:=nx 48 (.inl rfl)
      refine ⟨z,z1,z2,Ev.step (fun k=>?_) z3⟩
      rw [numnahlaw01_function.l0,if_pos (by omega),shl_one (by omega),if_pos (by omega),if_neg his,if_pos (by decide),if_pos (by omega),bytes01.1,wrap_succ (by omega)]
theorem lg_pow {n:Nat} (h1:1 ≤ n) (h5:n ≤ 5):lg (2 ^ n) = n:=by
  rcases (by omega:n = 1 ∨ n = 2 ∨ n = 3 ∨ n = 4 ∨ n = 5) with rfl | rfl | rfl | rfl | rfl <;> decide
/-- A string of the right size with these two characters is a total function. -/
theorem mk_tot {c:ByteArray} {n:Nat} (h1:1 ≤ n) (h5:n ≤ 5) (hs:c.size = 2 ^ n) (hv:∀ p,p < c.size → bt c (p:Int) = 48 ∨ bt c (p:Int) = 49):totB c = true ∧ fnN c = n ∧ c.size ≤ 40:=by
  have h32:2 ^ n ≤ 2 ^ 5:=Nat.pow_le_pow_right (by decide) h5
  have ho:okC c = true:=(allF_iff _ _ _).2 fun j _ hj=>by
    unfold isC
    have:=hv j (by omega)
    exact decide_eq_true (by omega)
  have hf:fnN c = n:=by
    unfold fnN
    rw [if_pos ho,hs,lg_pow h1 h5]
  refine ⟨?_,hf,by omega⟩
  unfold totB
  rw [hf,decide_eq_true (by omega),Bool.true_and]
  exact (allF_iff _ _ _).2 fun j _ hj=>by
    have:=hv j (by omega)
    exact decide_eq_true (by omega)
theorem ev_function (s:ByteArray) (hs:s.size ≤ 140737488351232) {n:Nat} (h1:1 ≤ n) (h5:n ≤ 5):∃ c:ByteArray,totB c = true ∧ fnN c = n ∧ c.size ≤ 40 ∧ c.size = 2 ^ n ∧ Ev (fun k=>numnahlaw01_function.f k s (n:Int) 2) c:=by
  obtain ⟨z,z1,z2,z3⟩:=func_l0 s hs h1 h5 (2 ^ n) 0 [] (by omega) rfl (fun y hy=>by cases hy)
  have hsz:(strOfNums z).size = 2 ^ n:=by rw [str_size,z1]
  obtain ⟨a,b,d⟩:=mk_tot h1 h5 hsz fun p hp=>by
    have hp':p < z.length:=by rw [hsz] at hp;omega
    have:=z2 _ (List.getElem_mem hp')
    rw [str_bt hp' (by omega) (by omega)]
    exact this
  exact ⟨_,a,b,d,hsz,z3⟩
def opB (i:Nat) (g:Nat → Bool) (p:Nat):Bool:=g p ^^ (p.testBit i && g (andNot p (2 ^ i)))
def sB:Nat → (Nat → Bool) → Nat → Bool
  | 0,g=>g
  | i + 1,g=>opB i (sB i g)
theorem sumA_sB (c:ByteArray):∀ i,sumA c i = sB i (vB c)
  | 0=>funext fun p=>rfl
  | i + 1=>funext fun p=>by
    rw [sumA,sumA_sB c i]
    rfl
theorem cut_bit (p i j:Nat):(andNot p (2 ^ i)).testBit j = (p.testBit j && !decide (i = j)):=by
  rw [testBit_andNot]
  congr 1
  by_cases h:i = j
  · subst h;rw [Nat.testBit_two_pow_self,decide_eq_true rfl]
  · rw [Nat.testBit_two_pow_of_ne h,decide_eq_false h]
theorem cut_comm (p i j:Nat):andNot (andNot p (2 ^ i)) (2 ^ j) = andNot (andNot p (2 ^ j)) (2 ^ i):=Nat.eq_of_testBit_eq fun k=>by
  rw [cut_bit,cut_bit,cut_bit,cut_bit]
  cases p.testBit k <;> cases decide (i = k) <;> cases decide (j = k) <;> rfl
theorem cut_le (p i:Nat):andNot p (2 ^ i) ≤ p:=by
  have:andNot p (2 ^ i) = p &&& andNot p (2 ^ i):=Nat.eq_of_testBit_eq fun k=>by
    rw [Nat.testBit_and,cut_bit]
    cases p.testBit k <;> rfl
  rw [this]
  exact Nat.and_le_left
theorem op_twice (i:Nat) (g:Nat → Bool):opB i (opB i g) = g:=funext fun p=>by
  unfold opB
  rw [cut_bit,decide_eq_true rfl]
  cases g p <;> cases p.testBit i <;> cases g (andNot p (2 ^ i)) <;> rfl
theorem op_comm {i j:Nat} (h:i ≠ j) (g:Nat → Bool):opB i (opB j g) = opB j (opB i g):=funext fun p=>by
  unfold opB
  rw [cut_bit,cut_bit,decide_eq_false h,decide_eq_false (fun e=>h e.symm),cut_comm p j i]
  cases g p <;> cases p.testBit i <;> cases p.testBit j <;> cases g (andNot p (2 ^ i)) <;> cases g (andNot p (2 ^ j)) <;> cases g (andNot (andNot p (2 ^ i)) (2 ^ j)) <;> rfl
theorem sB_op:∀ {i j:Nat},i ≤ j → ∀ g,sB i (opB j g) = opB j (sB i g)
  | 0,_,_,_=>rfl
  | i + 1,j,h,g=>by
    rw [sB,sB_op (show i ≤ j by omega),op_comm (by omega)]
    rfl
theorem sB_twice:∀ (i:Nat) (g:Nat → Bool),sB i (sB i g) = g
  | 0,_=>rfl
  | i + 1,g=>by
    show opB i (sB i (opB i (sB i g))) = g
    rw [sB_op (Nat.le_refl i),op_twice,sB_twice i g]
theorem sB_congr {N:Nat} {g h:Nat → Bool} (he:∀ q,q < N → g q = h q):∀ i p,p < N → sB i g p = sB i h p
  | 0,p,hp=>he p hp
  | i + 1,p,hp=>by
    have:=cut_le p i
    show opB i (sB i g) p = opB i (sB i h) p
    unfold opB
    rw [sB_congr he i p hp,sB_congr he i (andNot p (2 ^ i)) (by omega)]
theorem sB_xor (g h:Nat → Bool):∀ i p,sB i (fun q=>g q ^^ h q) p = (sB i g p ^^ sB i h p)
  | 0,_=>rfl
  | i + 1,p=>by
    show opB i (sB i fun q=>g q ^^ h q) p = (opB i (sB i g) p ^^ opB i (sB i h) p)
    unfold opB
    rw [sB_xor g h i p,sB_xor g h i (andNot p (2 ^ i))]
    cases sB i g p <;> cases sB i h p <;> cases p.testBit i <;> cases sB i g (andNot p (2 ^ i)) <;> cases sB i h (andNot p (2 ^ i)) <;> rfl
theorem sB_par {N:Nat} (hN:N ≤ 32) (g:Nat → Bool):∀ i,i ≤ 5 → ∀ p,p < N → sB i g p = par (fun q=>tB i q p && g q) N:=by
  intro i
  induction i with
  | zero =>
    intro _ p hp
    rw [par_one (p:=p) hp fun q hq hne=>by rw [tB_zero ⟨q,by omega⟩ ⟨p,by omega⟩,beq_false_of_ne hne];rfl,tB_zero ⟨p,by omega⟩ ⟨p,by omega⟩]
    simp [sB]
  | succ i ih =>
    intro hi p hp
    have ha:=cut_le p i
    show opB i (sB i g) p = _
    unfold opB
    rw [ih (by omega) p hp,ih (by omega) (andNot p (2 ^ i)) (by omega)]
    have e:∀ q,q < N → (tB (i + 1) q p && g q) = ((tB i q p && g q) ^^ (p.testBit i && (tB i q (andNot p (2 ^ i)) && g q))):=fun q hq=>by
      have h:=tB_step ⟨i,by omega⟩ ⟨q,by omega⟩ ⟨p,by omega⟩
      simp only at h
      rw [h]
      cases tB i q p <;> cases p.testBit i <;> cases tB i q (andNot p (2 ^ i)) <;> cases g q <;> rfl
    rw [par_congr e,par_xor]
    congr 1
    cases p.testBit i
    · rw [Bool.false_and,par_none fun q _=>by rw [Bool.false_and]]
    · rw [Bool.true_and]
      exact par_congr fun q _=>by rw [Bool.true_and]
theorem tB_top {n q p:Nat} (hq:q < 2 ^ n) (hp:p < 2 ^ n):tB n q p = (andNot q p == 0):=by
  unfold tB
  have h1:q >>> n = 0:=by rw [Nat.shiftRight_eq_div_pow];exact Nat.div_eq_of_lt hq
  have h2:p >>> n = 0:=by rw [Nat.shiftRight_eq_div_pow];exact Nat.div_eq_of_lt hp
  rw [h1,h2];simp
end Go.Proofs.Ythpahlkhiknofaa.P
namespace Go.Proofs.Ythpahlkhiknofaa.G
open Go.RowKit Go.Proofs.YthpahlkhiknofaaW.PrintWords Go.Proofs.YthpahlkhiknofaaW.PrintLast Go.Proofs.YthpahlkhiknofaaW.PrintMore
set_option maxHeartbeats 8000000
set_option maxRecDepth 100000
attribute [local go_sem] fld65_0 fld65_1 fld65_2 fld65_3 max2_int min2_int max_two min_two max_three min_three max_four min_four   -- for this text's walks alone
def numnahlaw01_CardMeasured.l0:Nat → Int → ByteArray → List Int → Int → Option (Bool)
 | 0,_,_,_,_=>none
 | k + 1,x0,x5,x6,x7=>if x7 < (x5.size:Int) then (if 0 ≤ x7 then (if x6.length < 140737488355328 then (numnahlaw01_CardMeasured.l0 k x0 x5 (x6 ++ [(97 - (bt x5 x7)) % 256]) (wrap64 (x7 + 1))) else (none)) else (none)) else ((card_Measures.f k x5).bind fun bt421=>((card_Measures.f k (strOfNums x6)).bind fun bt427=>(if bt421.2.2.2.2 = 0 then (if bt427.2.2.2.2 = 0 then (if bt421.2.1 > bt421.2.2.1 then (some false) else (if bt421.2.2.1 > x0 then (some false) else (if bt421.1 > x0 then (some false) else (if 0 ≤ x0 then (if (wrap64 (bt421.2.2.2.1 + bt427.2.2.2.1)) = (shl .i64 1 x0) then (if bt421.2.2.2.1 = 0 then (if bt421.2.1 = bt427.2.1 then (if bt421.2.2.1 = bt427.2.2.1 then (if bt421.1 = bt427.1 then (if (true == (bt421.2.1 == 0)) = true then (if (true == (bt421.2.2.1 == 0)) = true then (if (true == (bt421.1 == 0)) = true then ((numnahlaw01_awake.f).bind fun t433=>(some t433)) else (some false)) else (some false)) else (some false)) else (some false)) else (some false)) else (some false)) else (if bt421.2.1 = bt427.2.1 then (if bt421.2.2.1 = bt427.2.2.1 then (if bt421.1 = bt427.1 then (if ((bt421.2.2.2.1 == (shl .i64 1 x0)) == (bt421.2.1 == 0)) = true then (if ((bt421.2.2.2.1 == (shl .i64 1 x0)) == (bt421.2.2.1 == 0)) = true then (if ((bt421.2.2.2.1 == (shl .i64 1 x0)) == (bt421.1 == 0)) = true then ((numnahlaw01_awake.f).bind fun t434=>(some t434)) else (some false)) else (some false)) else (some false)) else (some false)) else (some false)) else (some false))) else (some false)) else (none))))) else (some false)) else (some false))))
def numnahlaw01_CardMeasured.f (k:Nat) (a0:Int) (a1:ByteArray):Option (Bool):=(numnahlaw01_mod.f a0 5).bind fun t416=>((numnahlaw01_function.f k a1 (wrap64 (1 + t416)) 2).bind fun t417=>(numnahlaw01_CardMeasured.l0 k (wrap64 (1 + t416)) t417 ([]:List Int) 0))
theorem numnahlaw01_CardMeasured.mono_l:∀ k,(∀ y0 y1 y2 y3,LeO (numnahlaw01_CardMeasured.l0 k y0 y1 y2 y3) (numnahlaw01_CardMeasured.l0 (k + 1) y0 y1 y2 y3))
 | 0=>fun _ _ _ _ r h=>by simp [numnahlaw01_CardMeasured.l0] at h
 | k + 1=>by
  have ih0:=numnahlaw01_CardMeasured.mono_l k
  intro y0 y1 y2 y3
  unfold numnahlaw01_CardMeasured.l0
  repeat' first
  | (with_reducible exact ih0 _ _ _ _)
  | (with_reducible exact card_Measures.mono _ _)
  | (with_reducible exact numnahlaw01_function.mono _ _ _ _)
  | (with_reducible exact LeO.refl _)
  | (with_reducible exact LeO.none _)
  | (with_reducible refine LeO.ite ?_ ?_)
  | (with_reducible refine LeO.bind ?_ (fun _=>?_))
  | exact ih0 _ _ _ _
  | exact card_Measures.mono _ _
  | exact numnahlaw01_function.mono _ _ _ _
  | exact LeO.none _
  | refine LeO.ite ?_ ?_
  | refine LeO.bind ?_ (fun _=>?_)
theorem numnahlaw01_CardMeasured.mono:∀ a0 a1 k,LeO (numnahlaw01_CardMeasured.f k a0 a1) (numnahlaw01_CardMeasured.f (k + 1) a0 a1):=by
 intro a0 a1 k
 have ih0:=numnahlaw01_CardMeasured.mono_l k
 unfold numnahlaw01_CardMeasured.f
 repeat' first
   | (with_reducible exact ih0 _ _ _ _)
   | (with_reducible exact card_Measures.mono _ _)
   | (with_reducible exact numnahlaw01_function.mono _ _ _ _)
   | (with_reducible exact LeO.refl _)
   | (with_reducible exact LeO.none _)
   | (with_reducible refine LeO.ite ?_ ?_)
   | (with_reducible refine LeO.bind ?_ (fun _=>?_))
   | exact ih0 _ _ _ _
   | exact card_Measures.mono _ _
   | exact numnahlaw01_function.mono _ _ _ _
   | exact LeO.none _
   | refine LeO.ite ?_ ?_
   | refine LeO.bind ?_ (fun _=>?_)
theorem numnahlaw01_CardMeasured.calls (k:Nat) (a0:Int) (a1:ByteArray) (r:Bool) (w:World) (h:numnahlaw01_CardMeasured.f k a0 a1 = some r) (hrt_:r = true) :
  Calls Try.prog 12 #[.int .i64 a0,.string a1] w fun e w'=>e = .returned (.bool r) ∧ Below w.heap.size w w':=by
 have hu65:=Try.underlying65
 have HB:=Aside0.mk (Below.refl w.heap.size w)
 have H:((numnahlaw01_mod.f a0 5).bind fun t416=>((numnahlaw01_function.f k a1 (wrap64 (1 + t416)) 2).bind fun t417=>(numnahlaw01_CardMeasured.l0 k (wrap64 (1 + t416)) t417 ([]:List Int) 0))) = some r:=h
 clear h
 replace H:=Option.bind_eq_some_iff.mp H
 obtain ⟨t416,A30,H⟩:=H
 replace H:((numnahlaw01_function.f k a1 (wrap64 (1 + t416)) 2).bind fun t417=>(numnahlaw01_CardMeasured.l0 k (wrap64 (1 + t416)) t417 ([]:List Int) 0)) = some r:=H
 have A3:=Aside0.mk A30
 clear A30
 replace H:=Option.bind_eq_some_iff.mp H
 obtain ⟨t417,A40,H⟩:=H
 replace H:(numnahlaw01_CardMeasured.l0 k (wrap64 (1 + t416)) t417 ([]:List Int) 0) = some r:=H
 have A4:=Aside0.mk A40
 clear A40
 have H':=Aside0.mk H
 clear H
 go_enter Try.func12,Try.ntmps12
 go_wp2_with (first | (go_at_call 27;(with_reducible refine (numnahlaw01_mod.calls a0 5 t416 _ A3.out).mono ?_);rintro e w' ⟨rfl,⟨nd,rfl⟩⟩;(try first | exact ⟨rfl,_,World.drewN_drewN _ _ _⟩ | exact ⟨rfl,_,Eq.trans (World.drewN_drewN _ _ _) (congrArg (World.drewN _) (Nat.add_assoc _ _ _))⟩)) | (go_at_call 28;(with_reducible refine (numnahlaw01_function.calls k a1 (wrap64 (1 + t416)) 2 t417 _ A4.out).mono ?_);rintro e w5 ⟨rfl,hb⟩;have n0_:=Aside0.mk (below_step (by repeat (first | (with_reducible first | exact HB.out | apply below_alloc | apply pw_below_drewN | apply below_drew1) | exact HB.out)) hb);clear HB;have HB:=n0_;clear n0_;(try clear hb)))
 repeat (go_quiet (first | (go_at_call 27;(with_reducible refine (numnahlaw01_mod.calls a0 5 t416 _ A3.out).mono ?_);rintro e w' ⟨rfl,⟨nd,rfl⟩⟩;(try first | exact ⟨rfl,_,World.drewN_drewN _ _ _⟩ | exact ⟨rfl,_,Eq.trans (World.drewN_drewN _ _ _) (congrArg (World.drewN _) (Nat.add_assoc _ _ _))⟩)) | (go_at_call 28;(with_reducible refine (numnahlaw01_function.calls k a1 (wrap64 (1 + t416)) 2 t417 _ A4.out).mono ?_);rintro e w5 ⟨rfl,hb⟩;have n0_:=Aside0.mk (below_step (by repeat (first | (with_reducible first | exact HB.out | apply below_alloc | apply pw_below_drewN | apply below_drew1) | exact HB.out)) hb);clear HB;have HB:=n0_;clear n0_;(try clear hb)));try go_wp2_with (first | (go_at_call 27;(with_reducible refine (numnahlaw01_mod.calls a0 5 t416 _ A3.out).mono ?_);rintro e w' ⟨rfl,⟨nd,rfl⟩⟩;(try first | exact ⟨rfl,_,World.drewN_drewN _ _ _⟩ | exact ⟨rfl,_,Eq.trans (World.drewN_drewN _ _ _) (congrArg (World.drewN _) (Nat.add_assoc _ _ _))⟩)) | (go_at_call 28;(with_reducible refine (numnahlaw01_function.calls k a1 (wrap64 (1 + t416)) 2 t417 _ A4.out).mono ?_);rintro e w5 ⟨rfl,hb⟩;have n0_:=Aside0.mk (below_step (by repeat (first | (with_reducible first | exact HB.out | apply below_alloc | apply pw_below_drewN | apply below_drew1) | exact HB.out)) hb);clear HB;have HB:=n0_;clear n0_;(try clear hb))))
 go_loopg [6,7] k (fun kq v6 v7 w'=>∃ (x6_1:List Int) (x7_1:Int),v7 = .int .i64 x7_1 ∧ Aside0 (numnahlaw01_CardMeasured.l0 kq (wrap64 (1 + t416)) t417 x6_1 x7_1 = some r) ∧ Aside0 (kq ≤ k) ∧ Aside0 (Kd.R (Kd.int .u8) 5 w' w.heap.size (fun _=>True) v6 x6_1) ∧ Aside0 (Below w.heap.size w w'))
 case atStart=>exact ⟨(([]:List Int)),(0),(by first | rfl | (simp;done) | (simp [*];done)),H',⟨Nat.le_refl _⟩,⟨by first | exact Kd.R_nil _ _ _ _ _ | exact Kd.N_nil _ _ _ _ _ | exact Kd.V_nil _ _ _ _ _ | exact Kd.Q_nil _ _ _ _ _ | exact Kd.S_nil _ _ _ _ _⟩,⟨by repeat (first | (with_reducible first | exact HB.out | apply below_alloc | apply pw_below_drewN | apply below_drew1) | exact HB.out)⟩⟩
 case round =>
  clear H'
  try clear c1
  try clear p2
  obtain ⟨x6_1,x7_1,rfl,HA,HK1,HO_6,HB⟩:=hrel
  cases gk with
  | zero=>exact absurd HA.out (by simp [numnahlaw01_CardMeasured.l0])
  | succ k1 =>
   have H:=HA.out
   clear HA
   simp only [numnahlaw01_CardMeasured.l0] at H
   by_cases c6:x7_1 < (t417.size:Int)
   ·rw [if_pos c6] at H
    have c6b0:decide (x7_1 < (t417.size:Int)) = true:=decide_eq_true c6
    clear c6
    by_cases c7:0 ≤ x7_1
    case neg =>
     rw [if_neg c7] at H
     exact absurd H (by simp)
    rw [if_pos c7] at H
    have c7b0:decide (0 ≤ x7_1) = true:=decide_eq_true c7
    clear c7
    by_cases c9:x6_1.length < 140737488355328
    case neg =>
     rw [if_neg c9] at H
     exact absurd H (by simp)
    rw [if_pos c9] at H
    have LMc9:=Aside0.mk c9
    clear c9
    obtain ⟨y418,hy418⟩:∃ y_:List Int,y_ = (x6_1 ++ [(97 - (bt t417 x7_1)) % 256]):=⟨_,rfl⟩
    replace H:(numnahlaw01_CardMeasured.l0 k1 (wrap64 (1 + t416)) t417 y418 (wrap64 (x7_1 + 1))) = some r:=by first | (rw [hy418];with_reducible exact H) | (have H2_:=(Option.bind_some _ _).symm.trans H;rw [hy418];with_reducible exact H2_) | (have H2_:=(Option.bind_some _ _).symm.trans H;with_reducible exact H2_) | with_reducible exact H | (rw [hy418];exact H) | exact H
    have Ny418:=Aside0.mk hy418
    clear hy418
    have H':=Aside0.mk H
    clear H
    have p8:0 ≤ (x7_1:Int):=of_decide_eq_true (by first | (with_reducible assumption) | assumption)
    have q8:x7_1 < (t417.size:Int):=of_decide_eq_true (by first | (with_reducible assumption) | assumption)
    have hx8:=bt_at t417 x7_1
    replace p8:=eq_true p8
    replace q8:=eq_true q8
    go_wp2_with (first | ((with_reducible refine gate_builtin (b:=.append) (xs:=#[.tmp 25,.tmp 30]) rfl ?_);at_builtin;refine Kd.R_append (Kd.int .u8) (w0:=w) w.heap.size rfl (.tmp 25) (.tmp 30) 42 5 (.int .u8 0) 1 rfl Try.underlying42 info5 rfl (by decide) (by omega) u6 x6_1 ((97 - (bt t417 x7_1)) % 256) [.int .u8 ((97 - (bt t417 x7_1)) % 256)] (fun _=>True) (fun _=>False) rfl rfl ?aP (fun _ hk=>hk.elim) ?aF ?aO ?aB ?aS ?aL ?_;(case aP=>exact rfl);(case aB=>exact (by repeat (first | (with_reducible first | exact HB.out | apply below_alloc | apply pw_below_drewN | apply below_drew1) | exact HB.out)));(case aF=>exact (fun _ _=>trivial));(case aO=>exact (by (with_reducible repeat (first | apply Kd.R_alloc | apply Kd.R_drewN | apply Kd.R_drew));exact HO_6.out));(case aS=>exact (below_size (by repeat (first | (with_reducible first | exact HB.out | apply below_alloc | apply pw_below_drewN | apply below_drew1) | exact HB.out))));(case aL=>have:=LMc9.out;omega);intro v419 w10 ho hb hg hat;rw [← Ny418.out] at ho;have n0_:=Aside0.mk (hb);have n1_:=Aside0.mk (ho);clear HB;clear HO_6;have HB:=n0_;have HO420:=n1_;clear n0_ n1_;clear ho hb hg hat))
    repeat (go_quiet (first | ((with_reducible refine gate_builtin (b:=.append) (xs:=#[.tmp 25,.tmp 30]) rfl ?_);at_builtin;refine Kd.R_append (Kd.int .u8) (w0:=w) w.heap.size rfl (.tmp 25) (.tmp 30) 42 5 (.int .u8 0) 1 rfl Try.underlying42 info5 rfl (by decide) (by omega) u6 x6_1 ((97 - (bt t417 x7_1)) % 256) [.int .u8 ((97 - (bt t417 x7_1)) % 256)] (fun _=>True) (fun _=>False) rfl rfl ?aP (fun _ hk=>hk.elim) ?aF ?aO ?aB ?aS ?aL ?_;(case aP=>exact rfl);(case aB=>exact (by repeat (first | (with_reducible first | exact HB.out | apply below_alloc | apply pw_below_drewN | apply below_drew1) | exact HB.out)));(case aF=>exact (fun _ _=>trivial));(case aO=>exact (by (with_reducible repeat (first | apply Kd.R_alloc | apply Kd.R_drewN | apply Kd.R_drew));exact HO_6.out));(case aS=>exact (below_size (by repeat (first | (with_reducible first | exact HB.out | apply below_alloc | apply pw_below_drewN | apply below_drew1) | exact HB.out))));(case aL=>have:=LMc9.out;omega);intro v419 w10 ho hb hg hat;rw [← Ny418.out] at ho;have n0_:=Aside0.mk (hb);have n1_:=Aside0.mk (ho);clear HB;clear HO_6;have HB:=n0_;have HO420:=n1_;clear n0_ n1_;clear ho hb hg hat));try go_wp2_with (first | ((with_reducible refine gate_builtin (b:=.append) (xs:=#[.tmp 25,.tmp 30]) rfl ?_);at_builtin;refine Kd.R_append (Kd.int .u8) (w0:=w) w.heap.size rfl (.tmp 25) (.tmp 30) 42 5 (.int .u8 0) 1 rfl Try.underlying42 info5 rfl (by decide) (by omega) u6 x6_1 ((97 - (bt t417 x7_1)) % 256) [.int .u8 ((97 - (bt t417 x7_1)) % 256)] (fun _=>True) (fun _=>False) rfl rfl ?aP (fun _ hk=>hk.elim) ?aF ?aO ?aB ?aS ?aL ?_;(case aP=>exact rfl);(case aB=>exact (by repeat (first | (with_reducible first | exact HB.out | apply below_alloc | apply pw_below_drewN | apply below_drew1) | exact HB.out)));(case aF=>exact (fun _ _=>trivial));(case aO=>exact (by (with_reducible repeat (first | apply Kd.R_alloc | apply Kd.R_drewN | apply Kd.R_drew));exact HO_6.out));(case aS=>exact (below_size (by repeat (first | (with_reducible first | exact HB.out | apply below_alloc | apply pw_below_drewN | apply below_drew1) | exact HB.out))));(case aL=>have:=LMc9.out;omega);intro v419 w10 ho hb hg hat;rw [← Ny418.out] at ho;have n0_:=Aside0.mk (hb);have n1_:=Aside0.mk (ho);clear HB;clear HO_6;have HB:=n0_;have HO420:=n1_;clear n0_ n1_;clear ho hb hg hat)))
    go_roundg k1
    case measure=>have:=HK1.out;omega
    case rel=>exact ⟨(y418),(wrap64 (x7_1 + 1)),(by first | rfl | (simp;done) | (simp [*];done)),H',⟨by have:=HK1.out;omega⟩,⟨by (with_reducible repeat (first | apply Kd.R_alloc | apply Kd.R_drewN | apply Kd.R_drew));exact HO420.out⟩,⟨by repeat (first | (with_reducible first | exact HB.out | apply below_alloc | apply pw_below_drewN | apply below_drew1) | exact HB.out)⟩⟩
   rw [if_neg c6] at H
   have c6b0:decide (x7_1 < (t417.size:Int)) = false:=decide_eq_false c6
   clear c6
   replace H:=Option.bind_eq_some_iff.mp H
   obtain ⟨⟨t421,t422,t423,t424,t425⟩,A110,H⟩:=H
   replace H:((card_Measures.f k1 (strOfNums x6_1)).bind fun bt427=>(if t425 = 0 then (if bt427.2.2.2.2 = 0 then (if t422 > t423 then (some false) else (if t423 > (wrap64 (1 + t416)) then (some false) else (if t421 > (wrap64 (1 + t416)) then (some false) else (if 0 ≤ (wrap64 (1 + t416)) then (if (wrap64 (t424 + bt427.2.2.2.1)) = (shl .i64 1 (wrap64 (1 + t416))) then (if t424 = 0 then (if t422 = bt427.2.1 then (if t423 = bt427.2.2.1 then (if t421 = bt427.1 then (if (true == (t422 == 0)) = true then (if (true == (t423 == 0)) = true then (if (true == (t421 == 0)) = true then ((numnahlaw01_awake.f).bind fun t433=>(some t433)) else (some false)) else (some false)) else (some false)) else (some false)) else (some false)) else (some false)) else (if t422 = bt427.2.1 then (if t423 = bt427.2.2.1 then (if t421 = bt427.1 then (if ((t424 == (shl .i64 1 (wrap64 (1 + t416)))) == (t422 == 0)) = true then (if ((t424 == (shl .i64 1 (wrap64 (1 + t416)))) == (t423 == 0)) = true then (if ((t424 == (shl .i64 1 (wrap64 (1 + t416)))) == (t421 == 0)) = true then ((numnahlaw01_awake.f).bind fun t434=>(some t434)) else (some false)) else (some false)) else (some false)) else (some false)) else (some false)) else (some false))) else (some false)) else (none))))) else (some false)) else (some false))) = some r:=H
   have A11:=Aside0.mk A110
   clear A110
   replace H:=Option.bind_eq_some_iff.mp H
   obtain ⟨⟨t427,t428,t429,t430,t431⟩,A120,H⟩:=H
   replace H:(if t425 = 0 then (if t431 = 0 then (if t422 > t423 then (some false) else (if t423 > (wrap64 (1 + t416)) then (some false) else (if t421 > (wrap64 (1 + t416)) then (some false) else (if 0 ≤ (wrap64 (1 + t416)) then (if (wrap64 (t424 + t430)) = (shl .i64 1 (wrap64 (1 + t416))) then (if t424 = 0 then (if t422 = t428 then (if t423 = t429 then (if t421 = t427 then (if (true == (t422 == 0)) = true then (if (true == (t423 == 0)) = true then (if (true == (t421 == 0)) = true then ((numnahlaw01_awake.f).bind fun t433=>(some t433)) else (some false)) else (some false)) else (some false)) else (some false)) else (some false)) else (some false)) else (if t422 = t428 then (if t423 = t429 then (if t421 = t427 then (if ((t424 == (shl .i64 1 (wrap64 (1 + t416)))) == (t422 == 0)) = true then (if ((t424 == (shl .i64 1 (wrap64 (1 + t416)))) == (t423 == 0)) = true then (if ((t424 == (shl .i64 1 (wrap64 (1 + t416)))) == (t421 == 0)) = true then ((numnahlaw01_awake.f).bind fun t434=>(some t434)) else (some false)) else (some false)) else (some false)) else (some false)) else (some false)) else (some false))) else (some false)) else (none))))) else (some false)) else (some false)) = some r:=H
   have A12:=Aside0.mk A120
   clear A120
   by_cases c13:t425 = 0
   case neg =>
    rw [if_neg c13] at H
    exact absurd ((Option.some.inj H).trans hrt_) (by decide)
   rw [if_pos c13] at H
   have c13b0:(t425 == 0) = true:=beq_iff_eq.mpr c13
   have c13b1:(t425 != 0) = false:=bne_eq_false_iff_eq.mpr c13
   clear c13
   by_cases c14:t431 = 0
   case neg =>
    rw [if_neg c14] at H
    exact absurd ((Option.some.inj H).trans hrt_) (by decide)
   rw [if_pos c14] at H
   have c14b0:(t431 == 0) = true:=beq_iff_eq.mpr c14
   have c14b1:(t431 != 0) = false:=bne_eq_false_iff_eq.mpr c14
   clear c14
   by_cases c15:t422 > t423
   ·rw [if_pos c15] at H
    exact absurd ((Option.some.inj H).trans hrt_) (by decide)
   rw [if_neg c15] at H
   have c15b0:decide (t423 < t422) = false:=decide_eq_false c15
   clear c15
   by_cases c25:t423 > (wrap64 (1 + t416))
   ·rw [if_pos c25] at H
    exact absurd ((Option.some.inj H).trans hrt_) (by decide)
   rw [if_neg c25] at H
   have c25b0:decide ((wrap64 (1 + t416)) < t423) = false:=decide_eq_false c25
   clear c25
   by_cases c35:t421 > (wrap64 (1 + t416))
   ·rw [if_pos c35] at H
    exact absurd ((Option.some.inj H).trans hrt_) (by decide)
   rw [if_neg c35] at H
   have c35b0:decide ((wrap64 (1 + t416)) < t421) = false:=decide_eq_false c35
   clear c35
   obtain ⟨ji45,hji45⟩:∃ j_:Int,(wrap64 (1 + t416)) = j_:=⟨_,rfl⟩
   replace H:(if 0 ≤ (ji45) then (if (wrap64 (t424 + t430)) = (shl .i64 1 (ji45)) then (if t424 = 0 then (if t422 = t428 then (if t423 = t429 then (if t421 = t427 then (if (true == (t422 == 0)) = true then (if (true == (t423 == 0)) = true then (if (true == (t421 == 0)) = true then ((numnahlaw01_awake.f).bind fun t433=>(some t433)) else (some false)) else (some false)) else (some false)) else (some false)) else (some false)) else (some false)) else (if t422 = t428 then (if t423 = t429 then (if t421 = t427 then (if ((t424 == (shl .i64 1 (ji45))) == (t422 == 0)) = true then (if ((t424 == (shl .i64 1 (ji45))) == (t423 == 0)) = true then (if ((t424 == (shl .i64 1 (ji45))) == (t421 == 0)) = true then ((numnahlaw01_awake.f).bind fun t434=>(some t434)) else (some false)) else (some false)) else (some false)) else (some false)) else (some false)) else (some false))) else (some false)) else (none)) = some r:=by first | (rw [hji45] at H;exact H) | (simp only [hji45] at H ⊢;exact H)
   (try rw [hji45] at c25b0)
   (try rw [hji45] at c35b0)
   (try rw [hji45] at A11)
   (try rw [hji45] at A12)
   have hji45w:(IntKind.i64.wrap (1 + t416)) = ji45:=(i64_w _).trans hji45
   by_cases c46:0 ≤ (ji45)
   case neg =>
    rw [if_neg c46] at H
    exact absurd H (by simp)
   rw [if_pos c46] at H
   have c46b0:=eq_true c46
   have c46b1:decide (0 ≤ (ji45)) = true:=decide_eq_true c46
   clear c46
   obtain ⟨ji47,hji47⟩:∃ j_:Int,(shl .i64 1 (ji45)) = j_:=⟨_,rfl⟩
   replace H:(if (wrap64 (t424 + t430)) = (ji47) then (if t424 = 0 then (if t422 = t428 then (if t423 = t429 then (if t421 = t427 then (if (true == (t422 == 0)) = true then (if (true == (t423 == 0)) = true then (if (true == (t421 == 0)) = true then ((numnahlaw01_awake.f).bind fun t433=>(some t433)) else (some false)) else (some false)) else (some false)) else (some false)) else (some false)) else (some false)) else (if t422 = t428 then (if t423 = t429 then (if t421 = t427 then (if ((t424 == (ji47)) == (t422 == 0)) = true then (if ((t424 == (ji47)) == (t423 == 0)) = true then (if ((t424 == (ji47)) == (t421 == 0)) = true then ((numnahlaw01_awake.f).bind fun t434=>(some t434)) else (some false)) else (some false)) else (some false)) else (some false)) else (some false)) else (some false))) else (some false)) = some r:=by first | (rw [hji47] at H;exact H) | (simp only [hji47] at H ⊢;exact H)
   (try rw [hji47] at A11)
   (try rw [hji47] at A12)
   have hji47_:(IntKind.i64.wrap (1 * 2 ^ min (ji45).toNat 64)) = ji47:=hji47
   have hji47z:(ji45) ≤ 64 → (IntKind.i64.wrap (1 * 2 ^ (ji45).toNat)) = ji47:=shl_small hji47
   have hji47u:(IntKind.i64.wrap (2 ^ min (ji45).toNat 64)) = ji47:=by have h_:=hji47_;rw [Int.one_mul] at h_;exact h_
   have hji47v:(ji45) ≤ 64 → (IntKind.i64.wrap (2 ^ (ji45).toNat)) = ji47:=fun hle_=>by have h_:=hji47z hle_;rw [Int.one_mul] at h_;exact h_
   have hji47y:(wrap64 (1 * 2 ^ min (ji45).toNat 64)) = ji47:=(i64_w _).symm.trans hji47_
   have hji47x:(ji45) ≤ 64 → (wrap64 (1 * 2 ^ (ji45).toNat)) = ji47:=fun h_=>(i64_w _).symm.trans (hji47z h_)
   by_cases c48:(wrap64 (t424 + t430)) = (ji47)
   case neg =>
    rw [if_neg c48] at H
    exact absurd ((Option.some.inj H).trans hrt_) (by decide)
   rw [if_pos c48] at H
   have c48b0:((wrap64 (t424 + t430)) == (ji47)) = true:=beq_iff_eq.mpr c48
   have c48b1:((wrap64 (t424 + t430)) != (ji47)) = false:=bne_eq_false_iff_eq.mpr c48
   clear c48
   by_cases c49:t424 = 0
   ·rw [if_pos c49] at H
    have c49b0:(t424 == 0) = true:=beq_iff_eq.mpr c49
    have c49b1:(t424 != 0) = false:=bne_eq_false_iff_eq.mpr c49
    clear c49
    by_cases c50:t422 = t428
    case neg =>
     rw [if_neg c50] at H
     exact absurd ((Option.some.inj H).trans hrt_) (by decide)
    rw [if_pos c50] at H
    have c50b0:(t422 == t428) = true:=beq_iff_eq.mpr c50
    have c50b1:(t422 != t428) = false:=bne_eq_false_iff_eq.mpr c50
    clear c50
    by_cases c51:t423 = t429
    case neg =>
     rw [if_neg c51] at H
     exact absurd ((Option.some.inj H).trans hrt_) (by decide)
    rw [if_pos c51] at H
    have c51b0:(t423 == t429) = true:=beq_iff_eq.mpr c51
    have c51b1:(t423 != t429) = false:=bne_eq_false_iff_eq.mpr c51
    clear c51
    by_cases c52:t421 = t427
    case neg =>
     rw [if_neg c52] at H
     exact absurd ((Option.some.inj H).trans hrt_) (by decide)
    rw [if_pos c52] at H
    have c52b0:(t421 == t427) = true:=beq_iff_eq.mpr c52
    have c52b1:(t421 != t427) = false:=bne_eq_false_iff_eq.mpr c52
    clear c52
    by_cases c53:(true == (t422 == 0)) = true
    case neg =>
     rw [if_neg c53] at H
     exact absurd ((Option.some.inj H).trans hrt_) (by decide)
    rw [if_pos c53] at H
    have c53b0:(true == (t422 == 0)) = true:=c53
    (try (have c53b1:decide (true = (t422 == 0)) = true:=by simpa using c53))
    (try (have c53b2:(true == (t422 == 0)) = true:=by simpa using c53))
    clear c53
    by_cases c54:(true == (t423 == 0)) = true
    case neg =>
     rw [if_neg c54] at H
     exact absurd ((Option.some.inj H).trans hrt_) (by decide)
    rw [if_pos c54] at H
    have c54b0:(true == (t423 == 0)) = true:=c54
    (try (have c54b1:decide (true = (t423 == 0)) = true:=by simpa using c54))
    (try (have c54b2:(true == (t423 == 0)) = true:=by simpa using c54))
    clear c54
    by_cases c55:(true == (t421 == 0)) = true
    case neg =>
     rw [if_neg c55] at H
     exact absurd ((Option.some.inj H).trans hrt_) (by decide)
    rw [if_pos c55] at H
    have c55b0:(true == (t421 == 0)) = true:=c55
    (try (have c55b1:decide (true = (t421 == 0)) = true:=by simpa using c55))
    (try (have c55b2:(true == (t421 == 0)) = true:=by simpa using c55))
    clear c55
    replace H:=Option.bind_eq_some_iff.mp H
    obtain ⟨t433,A560,H⟩:=H
    replace H:(some t433) = some r:=H
    have A56:=Aside0.mk A560
    clear A560
    obtain rfl:=Option.some.inj H
    go_wp2_with (first | (go_at_call 49;(with_reducible refine (card_Measures.calls k1 t417 t421 t422 t423 t424 t425 _ A11.out).mono ?_);rintro e w57 ⟨rfl,hb⟩;have n0_:=Aside0.mk (Kd.R_below (by (with_reducible repeat (first | apply Kd.R_alloc | apply Kd.R_drewN | apply Kd.R_drew));exact HO_6.out) hb);have n1_:=Aside0.mk (below_step (by repeat (first | (with_reducible first | exact HB.out | apply below_alloc | apply pw_below_drewN | apply below_drew1) | exact HB.out)) hb);clear HO_6;clear HB;have HO_6:=n0_;have HB:=n1_;clear n0_ n1_;(try clear hb)) | ((with_reducible refine gate_dst (N:=8) rfl ?_);refine box_event ?hg (N:=8) ?hd (cs:=#[.int .i64 0,.int .i64 0,.int .i64 0,.int .i64 0]) (t:=65) ?hr ?_;(case hd=>rfl);(case hg=>rfl);(case hr=>first | (go_simp;done) | (go_simp;rfl));intro gb426 hg w58 hbox hb;have n0_:=Aside0.mk (Kd.R_below (by (with_reducible repeat (first | apply Kd.R_alloc | apply Kd.R_drewN | apply Kd.R_drew));exact HO_6.out) hb);have n1_:=Aside0.mk (below_step (by repeat (first | (with_reducible first | exact HB.out | apply below_alloc | apply pw_below_drewN | apply below_drew1) | exact HB.out)) hb);have n2_:=Aside0.mk (hbox);have n3_:=Aside0.mk ((by rw [hg];exact (below_size (by repeat (first | (with_reducible first | exact HB.out | apply below_alloc | apply pw_below_drewN | apply below_drew1) | exact HB.out))):w.heap.size ≤ gb426));have n4_:=Aside0.mk ((by rw [hg];exact (below_size (by repeat (first | (with_reducible first | exact HB.out | apply below_alloc | apply pw_below_drewN | apply below_drew1) | exact HB.out))):w.heap.size ≤ gb426));clear HO_6;clear HB;have HO_6:=n0_;have HB:=n1_;have BK426:=n2_;have GW426:=n3_;have GE426:=n4_;clear n0_ n1_ n2_ n3_ n4_;clear hb hbox hg;have hcz59_0:w58.cell? ⟨gb426,0,none⟩ = some (.int .i64 0):=(blk_cell BK426.out 0).trans rfl;have hcz59_1:w58.cell? ⟨gb426,1,none⟩ = some (.int .i64 0):=(blk_cell BK426.out 1).trans rfl;have hcz59_2:w58.cell? ⟨gb426,2,none⟩ = some (.int .i64 0):=(blk_cell BK426.out 2).trans rfl;have hcz59_3:w58.cell? ⟨gb426,3,none⟩ = some (.int .i64 0):=(blk_cell BK426.out 3).trans rfl;have hfz59_0:=blk_frozen BK426.out 0;have hfz59_1:=blk_frozen BK426.out 1;have hfz59_2:=blk_frozen BK426.out 2;have hfz59_3:=blk_frozen BK426.out 3;have hcv60:=own_string (P:=Try.prog) Try.underlying42 Try.underlying5 Try.underlying9 (Kd.own_of_R HO_6.out);have hcvB:=own_string (P:=Try.prog) Try.underlying42 Try.underlying5 Try.underlying9 (Kd.own_of_R (Kd.R_far (p:=⟨gb426,3,none⟩) (Kd.R_far (p:=⟨gb426,2,none⟩) (Kd.R_far (p:=⟨gb426,1,none⟩) (Kd.R_far (p:=⟨gb426,0,none⟩) (Kd.R_types HO_6.out BK426.out (by decide)) (fun _ hk=>hk.2) (.int .i64 t421)) (fun _ hk=>hk.2) (.int .i64 t422)) (fun _ hk=>hk.2) (.int .i64 t423)) (fun _ hk=>hk.2) (.int .i64 t424)))) | (go_at_call 49;(with_reducible refine (card_Measures.calls k1 (strOfNums x6_1) t427 t428 t429 t430 t431 _ A12.out).mono ?_);rintro e w61 ⟨rfl,hb⟩;have n0_:=Aside0.mk (Kd.R_below (by (with_reducible repeat (first | apply Kd.R_alloc | apply Kd.R_drewN | apply Kd.R_drew));exact (Kd.R_mono (Kd.R_far (p:=⟨gb426,3,none⟩) (Kd.R_far (p:=⟨gb426,2,none⟩) (Kd.R_far (p:=⟨gb426,1,none⟩) (Kd.R_far (p:=⟨gb426,0,none⟩) (Kd.R_types HO_6.out BK426.out (by decide)) (fun _ hk=>hk.2) (.int .i64 t421)) (fun _ hk=>hk.2) (.int .i64 t422)) (fun _ hk=>hk.2) (.int .i64 t423)) (fun _ hk=>hk.2) (.int .i64 t424)) (fun _ h_=>h_.1))) hb);have n1_:=Aside0.mk (blk_below (g:=gb426) (o:=.cells #[.int .i64 t421,.int .i64 t422,.int .i64 t423,.int .i64 t424] 65 (0,0)) (by (with_reducible repeat (first | refine blk_drewN ?_ _ | refine blk_drew ?_ | refine blk_alloc ?_ _));refine blk_put (cs:=#[.int .i64 t421,.int .i64 t422,.int .i64 t423,.int .i64 0]) ?_ 3 _ rfl;(with_reducible repeat (first | refine blk_drewN ?_ _ | refine blk_drew ?_ | refine blk_alloc ?_ _));refine blk_put (cs:=#[.int .i64 t421,.int .i64 t422,.int .i64 0,.int .i64 0]) ?_ 2 _ rfl;(with_reducible repeat (first | refine blk_drewN ?_ _ | refine blk_drew ?_ | refine blk_alloc ?_ _));refine blk_put (cs:=#[.int .i64 t421,.int .i64 0,.int .i64 0,.int .i64 0]) ?_ 1 _ rfl;(with_reducible repeat (first | refine blk_drewN ?_ _ | refine blk_drew ?_ | refine blk_alloc ?_ _));refine blk_put (cs:=#[.int .i64 0,.int .i64 0,.int .i64 0,.int .i64 0]) ?_ 0 _ rfl;(with_reducible repeat (first | refine blk_drewN ?_ _ | refine blk_drew ?_ | refine blk_alloc ?_ _));exact BK426.out) hb);have n2_:=Aside0.mk (below_step (by repeat (first | (with_reducible first | exact HB.out | apply below_alloc | apply pw_below_drewN | apply below_drew1 | refine below_set ?_ GE426.out) | exact HB.out)) hb);clear HO_6;clear BK426;clear HB;have HO_6:=n0_;have BK426:=n1_;have HB:=n2_;clear n0_ n1_ n2_;(try clear hb)) | ((with_reducible refine gate_dst (N:=10) rfl ?_);refine box_event ?hg (N:=10) ?hd (cs:=#[.int .i64 0,.int .i64 0,.int .i64 0,.int .i64 0]) (t:=65) ?hr ?_;(case hd=>rfl);(case hg=>rfl);(case hr=>first | (go_simp;done) | (go_simp;rfl));intro gb432 hg w62 hbox hb;have n0_:=Aside0.mk (Kd.R_below (by (with_reducible repeat (first | apply Kd.R_alloc | apply Kd.R_drewN | apply Kd.R_drew));exact HO_6.out) hb);have n1_:=Aside0.mk (blk_below (g:=gb426) (o:=.cells #[.int .i64 t421,.int .i64 t422,.int .i64 t423,.int .i64 t424] 65 (0,0)) (by (with_reducible repeat (first | refine blk_drewN ?_ _ | refine blk_drew ?_ | refine blk_alloc ?_ _));exact BK426.out) hb);have n2_:=Aside0.mk (below_step (by repeat (first | (with_reducible first | exact HB.out | apply below_alloc | apply pw_below_drewN | apply below_drew1 | refine below_set ?_ GE426.out) | exact HB.out)) hb);have n3_:=Aside0.mk (hbox);have n4_:=Aside0.mk ((by rw [hg];exact (below_size (by repeat (first | (with_reducible first | exact HB.out | apply below_alloc | apply pw_below_drewN | apply below_drew1 | refine below_set ?_ GE426.out) | exact HB.out))):w.heap.size ≤ gb432));have n5_:=Aside0.mk ((by rw [hg];exact (below_size (by repeat (first | (with_reducible first | exact HB.out | apply below_alloc | apply pw_below_drewN | apply below_drew1 | refine below_set ?_ GE426.out) | exact HB.out))):w.heap.size ≤ gb432));have n6_:=Aside0.mk ((by rw [hg];exact Nat.ne_of_lt (blk_lt (g:=gb426) (o:=.cells #[.int .i64 t421,.int .i64 t422,.int .i64 t423,.int .i64 t424] 65 (0,0)) (by (with_reducible repeat (first | refine blk_drewN ?_ _ | refine blk_drew ?_ | refine blk_alloc ?_ _));exact BK426.out)):gb426 ≠ gb432));have n7_:=Aside0.mk ((by rw [hg];exact Nat.ne_of_gt (blk_lt (g:=gb426) (o:=.cells #[.int .i64 t421,.int .i64 t422,.int .i64 t423,.int .i64 t424] 65 (0,0)) (by (with_reducible repeat (first | refine blk_drewN ?_ _ | refine blk_drew ?_ | refine blk_alloc ?_ _));exact BK426.out)):gb432 ≠ gb426));clear HO_6;clear BK426;clear HB;have HO_6:=n0_;have BK426:=n1_;have HB:=n2_;have BK432:=n3_;have GW432:=n4_;have GE432:=n5_;have NB426_432:=n6_;have NB432_426:=n7_;clear n0_ n1_ n2_ n3_ n4_ n5_ n6_ n7_;clear hb hbox hg;have hnb63:=NB432_426.out;have hnc63:=NB426_432.out;have hcz64_0:w62.cell? ⟨gb432,0,none⟩ = some (.int .i64 0):=(blk_cell BK432.out 0).trans rfl;have hcz64_1:w62.cell? ⟨gb432,1,none⟩ = some (.int .i64 0):=(blk_cell BK432.out 1).trans rfl;have hcz64_2:w62.cell? ⟨gb432,2,none⟩ = some (.int .i64 0):=(blk_cell BK432.out 2).trans rfl;have hcz64_3:w62.cell? ⟨gb432,3,none⟩ = some (.int .i64 0):=(blk_cell BK432.out 3).trans rfl;have hfz64_0:=blk_frozen BK432.out 0;have hfz64_1:=blk_frozen BK432.out 1;have hfz64_2:=blk_frozen BK432.out 2;have hfz64_3:=blk_frozen BK432.out 3;have hcz65_0:w62.cell? ⟨gb426,0,none⟩ = some (.int .i64 t421):=(blk_cell BK426.out 0).trans rfl;have hcz65_1:w62.cell? ⟨gb426,1,none⟩ = some (.int .i64 t422):=(blk_cell BK426.out 1).trans rfl;have hcz65_2:w62.cell? ⟨gb426,2,none⟩ = some (.int .i64 t423):=(blk_cell BK426.out 2).trans rfl;have hcz65_3:w62.cell? ⟨gb426,3,none⟩ = some (.int .i64 t424):=(blk_cell BK426.out 3).trans rfl;have hfz65_0:=blk_frozen BK426.out 0;have hfz65_1:=blk_frozen BK426.out 1;have hfz65_2:=blk_frozen BK426.out 2;have hfz65_3:=blk_frozen BK426.out 3) | (go_at_call 22;(with_reducible refine (numnahlaw01_awake.calls  t433 _ A56.out).mono ?_);rintro e w66 ⟨rfl,hb⟩;have n0_:=Aside0.mk (Kd.R_below (by (with_reducible repeat (first | apply Kd.R_alloc | apply Kd.R_drewN | apply Kd.R_drew));exact (Kd.R_mono (Kd.R_far (p:=⟨gb432,3,none⟩) (Kd.R_far (p:=⟨gb432,2,none⟩) (Kd.R_far (p:=⟨gb432,1,none⟩) (Kd.R_far (p:=⟨gb432,0,none⟩) (Kd.R_types HO_6.out BK432.out (by decide)) (fun _ hk=>hk.2) (.int .i64 t427)) (fun _ hk=>hk.2) (.int .i64 t428)) (fun _ hk=>hk.2) (.int .i64 t429)) (fun _ hk=>hk.2) (.int .i64 t430)) (fun _ h_=>h_.1))) hb);have n1_:=Aside0.mk (blk_below (g:=gb426) (o:=.cells #[.int .i64 t421,.int .i64 t422,.int .i64 t423,.int .i64 t424] 65 (0,0)) (by (with_reducible repeat (first | refine blk_drewN ?_ _ | refine blk_drew ?_ | refine blk_alloc ?_ _));refine blk_far ?_ NB426_432.out _;(with_reducible repeat (first | refine blk_drewN ?_ _ | refine blk_drew ?_ | refine blk_alloc ?_ _));refine blk_far ?_ NB426_432.out _;(with_reducible repeat (first | refine blk_drewN ?_ _ | refine blk_drew ?_ | refine blk_alloc ?_ _));refine blk_far ?_ NB426_432.out _;(with_reducible repeat (first | refine blk_drewN ?_ _ | refine blk_drew ?_ | refine blk_alloc ?_ _));refine blk_far ?_ NB426_432.out _;(with_reducible repeat (first | refine blk_drewN ?_ _ | refine blk_drew ?_ | refine blk_alloc ?_ _));exact BK426.out) hb);have n2_:=Aside0.mk (blk_below (g:=gb432) (o:=.cells #[.int .i64 t427,.int .i64 t428,.int .i64 t429,.int .i64 t430] 65 (0,0)) (by (with_reducible repeat (first | refine blk_drewN ?_ _ | refine blk_drew ?_ | refine blk_alloc ?_ _));refine blk_put (cs:=#[.int .i64 t427,.int .i64 t428,.int .i64 t429,.int .i64 0]) ?_ 3 _ rfl;(with_reducible repeat (first | refine blk_drewN ?_ _ | refine blk_drew ?_ | refine blk_alloc ?_ _));refine blk_put (cs:=#[.int .i64 t427,.int .i64 t428,.int .i64 0,.int .i64 0]) ?_ 2 _ rfl;(with_reducible repeat (first | refine blk_drewN ?_ _ | refine blk_drew ?_ | refine blk_alloc ?_ _));refine blk_put (cs:=#[.int .i64 t427,.int .i64 0,.int .i64 0,.int .i64 0]) ?_ 1 _ rfl;(with_reducible repeat (first | refine blk_drewN ?_ _ | refine blk_drew ?_ | refine blk_alloc ?_ _));refine blk_put (cs:=#[.int .i64 0,.int .i64 0,.int .i64 0,.int .i64 0]) ?_ 0 _ rfl;(with_reducible repeat (first | refine blk_drewN ?_ _ | refine blk_drew ?_ | refine blk_alloc ?_ _));exact BK432.out) hb);have n3_:=Aside0.mk (below_step (by repeat (first | (with_reducible first | exact HB.out | apply below_alloc | apply pw_below_drewN | apply below_drew1 | refine below_set ?_ GE426.out | refine below_set ?_ GE432.out) | exact HB.out)) hb);clear HO_6;clear BK426;clear BK432;clear HB;have HO_6:=n0_;have BK426:=n1_;have BK432:=n2_;have HB:=n3_;clear n0_ n1_ n2_ n3_;(try clear hb)))
    repeat (go_quiet (first | (go_at_call 49;(with_reducible refine (card_Measures.calls k1 t417 t421 t422 t423 t424 t425 _ A11.out).mono ?_);rintro e w57 ⟨rfl,hb⟩;have n0_:=Aside0.mk (Kd.R_below (by (with_reducible repeat (first | apply Kd.R_alloc | apply Kd.R_drewN | apply Kd.R_drew));exact HO_6.out) hb);have n1_:=Aside0.mk (below_step (by repeat (first | (with_reducible first | exact HB.out | apply below_alloc | apply pw_below_drewN | apply below_drew1) | exact HB.out)) hb);clear HO_6;clear HB;have HO_6:=n0_;have HB:=n1_;clear n0_ n1_;(try clear hb)) | ((with_reducible refine gate_dst (N:=8) rfl ?_);refine box_event ?hg (N:=8) ?hd (cs:=#[.int .i64 0,.int .i64 0,.int .i64 0,.int .i64 0]) (t:=65) ?hr ?_;(case hd=>rfl);(case hg=>rfl);(case hr=>first | (go_simp;done) | (go_simp;rfl));intro gb426 hg w58 hbox hb;have n0_:=Aside0.mk (Kd.R_below (by (with_reducible repeat (first | apply Kd.R_alloc | apply Kd.R_drewN | apply Kd.R_drew));exact HO_6.out) hb);have n1_:=Aside0.mk (below_step (by repeat (first | (with_reducible first | exact HB.out | apply below_alloc | apply pw_below_drewN | apply below_drew1) | exact HB.out)) hb);have n2_:=Aside0.mk (hbox);have n3_:=Aside0.mk ((by rw [hg];exact (below_size (by repeat (first | (with_reducible first | exact HB.out | apply below_alloc | apply pw_below_drewN | apply below_drew1) | exact HB.out))):w.heap.size ≤ gb426));have n4_:=Aside0.mk ((by rw [hg];exact (below_size (by repeat (first | (with_reducible first | exact HB.out | apply below_alloc | apply pw_below_drewN | apply below_drew1) | exact HB.out))):w.heap.size ≤ gb426));clear HO_6;clear HB;have HO_6:=n0_;have HB:=n1_;have BK426:=n2_;have GW426:=n3_;have GE426:=n4_;clear n0_ n1_ n2_ n3_ n4_;clear hb hbox hg;have hcz59_0:w58.cell? ⟨gb426,0,none⟩ = some (.int .i64 0):=(blk_cell BK426.out 0).trans rfl;have hcz59_1:w58.cell? ⟨gb426,1,none⟩ = some (.int .i64 0):=(blk_cell BK426.out 1).trans rfl;have hcz59_2:w58.cell? ⟨gb426,2,none⟩ = some (.int .i64 0):=(blk_cell BK426.out 2).trans rfl;have hcz59_3:w58.cell? ⟨gb426,3,none⟩ = some (.int .i64 0):=(blk_cell BK426.out 3).trans rfl;have hfz59_0:=blk_frozen BK426.out 0;have hfz59_1:=blk_frozen BK426.out 1;have hfz59_2:=blk_frozen BK426.out 2;have hfz59_3:=blk_frozen BK426.out 3;have hcv60:=own_string (P:=Try.prog) Try.underlying42 Try.underlying5 Try.underlying9 (Kd.own_of_R HO_6.out);have hcvB:=own_string (P:=Try.prog) Try.underlying42 Try.underlying5 Try.underlying9 (Kd.own_of_R (Kd.R_far (p:=⟨gb426,3,none⟩) (Kd.R_far (p:=⟨gb426,2,none⟩) (Kd.R_far (p:=⟨gb426,1,none⟩) (Kd.R_far (p:=⟨gb426,0,none⟩) (Kd.R_types HO_6.out BK426.out (by decide)) (fun _ hk=>hk.2) (.int .i64 t421)) (fun _ hk=>hk.2) (.int .i64 t422)) (fun _ hk=>hk.2) (.int .i64 t423)) (fun _ hk=>hk.2) (.int .i64 t424)))) | (go_at_call 49;(with_reducible refine (card_Measures.calls k1 (strOfNums x6_1) t427 t428 t429 t430 t431 _ A12.out).mono ?_);rintro e w61 ⟨rfl,hb⟩;have n0_:=Aside0.mk (Kd.R_below (by (with_reducible repeat (first | apply Kd.R_alloc | apply Kd.R_drewN | apply Kd.R_drew));exact (Kd.R_mono (Kd.R_far (p:=⟨gb426,3,none⟩) (Kd.R_far (p:=⟨gb426,2,none⟩) (Kd.R_far (p:=⟨gb426,1,none⟩) (Kd.R_far (p:=⟨gb426,0,none⟩) (Kd.R_types HO_6.out BK426.out (by decide)) (fun _ hk=>hk.2) (.int .i64 t421)) (fun _ hk=>hk.2) (.int .i64 t422)) (fun _ hk=>hk.2) (.int .i64 t423)) (fun _ hk=>hk.2) (.int .i64 t424)) (fun _ h_=>h_.1))) hb);have n1_:=Aside0.mk (blk_below (g:=gb426) (o:=.cells #[.int .i64 t421,.int .i64 t422,.int .i64 t423,.int .i64 t424] 65 (0,0)) (by (with_reducible repeat (first | refine blk_drewN ?_ _ | refine blk_drew ?_ | refine blk_alloc ?_ _));refine blk_put (cs:=#[.int .i64 t421,.int .i64 t422,.int .i64 t423,.int .i64 0]) ?_ 3 _ rfl;(with_reducible repeat (first | refine blk_drewN ?_ _ | refine blk_drew ?_ | refine blk_alloc ?_ _));refine blk_put (cs:=#[.int .i64 t421,.int .i64 t422,.int .i64 0,.int .i64 0]) ?_ 2 _ rfl;(with_reducible repeat (first | refine blk_drewN ?_ _ | refine blk_drew ?_ | refine blk_alloc ?_ _));refine blk_put (cs:=#[.int .i64 t421,.int .i64 0,.int .i64 0,.int .i64 0]) ?_ 1 _ rfl;(with_reducible repeat (first | refine blk_drewN ?_ _ | refine blk_drew ?_ | refine blk_alloc ?_ _));refine blk_put (cs:=#[.int .i64 0,.int .i64 0,.int .i64 0,.int .i64 0]) ?_ 0 _ rfl;(with_reducible repeat (first | refine blk_drewN ?_ _ | refine blk_drew ?_ | refine blk_alloc ?_ _));exact BK426.out) hb);have n2_:=Aside0.mk (below_step (by repeat (first | (with_reducible first | exact HB.out | apply below_alloc | apply pw_below_drewN | apply below_drew1 | refine below_set ?_ GE426.out) | exact HB.out)) hb);clear HO_6;clear BK426;clear HB;have HO_6:=n0_;have BK426:=n1_;have HB:=n2_;clear n0_ n1_ n2_;(try clear hb)) | ((with_reducible refine gate_dst (N:=10) rfl ?_);refine box_event ?hg (N:=10) ?hd (cs:=#[.int .i64 0,.int .i64 0,.int .i64 0,.int .i64 0]) (t:=65) ?hr ?_;(case hd=>rfl);(case hg=>rfl);(case hr=>first | (go_simp;done) | (go_simp;rfl));intro gb432 hg w62 hbox hb;have n0_:=Aside0.mk (Kd.R_below (by (with_reducible repeat (first | apply Kd.R_alloc | apply Kd.R_drewN | apply Kd.R_drew));exact HO_6.out) hb);have n1_:=Aside0.mk (blk_below (g:=gb426) (o:=.cells #[.int .i64 t421,.int .i64 t422,.int .i64 t423,.int .i64 t424] 65 (0,0)) (by (with_reducible repeat (first | refine blk_drewN ?_ _ | refine blk_drew ?_ | refine blk_alloc ?_ _));exact BK426.out) hb);have n2_:=Aside0.mk (below_step (by repeat (first | (with_reducible first | exact HB.out | apply below_alloc | apply pw_below_drewN | apply below_drew1 | refine below_set ?_ GE426.out) | exact HB.out)) hb);have n3_:=Aside0.mk (hbox);have n4_:=Aside0.mk ((by rw [hg];exact (below_size (by repeat (first | (with_reducible first | exact HB.out | apply below_alloc | apply pw_below_drewN | apply below_drew1 | refine below_set ?_ GE426.out) | exact HB.out))):w.heap.size ≤ gb432));have n5_:=Aside0.mk ((by rw [hg];exact (below_size (by repeat (first | (with_reducible first | exact HB.out | apply below_alloc | apply pw_below_drewN | apply below_drew1 | refine below_set ?_ GE426.out) | exact HB.out))):w.heap.size ≤ gb432));have n6_:=Aside0.mk ((by rw [hg];exact Nat.ne_of_lt (blk_lt (g:=gb426) (o:=.cells #[.int .i64 t421,.int .i64 t422,.int .i64 t423,.int .i64 t424] 65 (0,0)) (by (with_reducible repeat (first | refine blk_drewN ?_ _ | refine blk_drew ?_ | refine blk_alloc ?_ _));exact BK426.out)):gb426 ≠ gb432));have n7_:=Aside0.mk ((by rw [hg];exact Nat.ne_of_gt (blk_lt (g:=gb426) (o:=.cells #[.int .i64 t421,.int .i64 t422,.int .i64 t423,.int .i64 t424] 65 (0,0)) (by (with_reducible repeat (first | refine blk_drewN ?_ _ | refine blk_drew ?_ | refine blk_alloc ?_ _));exact BK426.out)):gb432 ≠ gb426));clear HO_6;clear BK426;clear HB;have HO_6:=n0_;have BK426:=n1_;have HB:=n2_;have BK432:=n3_;have GW432:=n4_;have GE432:=n5_;have NB426_432:=n6_;have NB432_426:=n7_;clear n0_ n1_ n2_ n3_ n4_ n5_ n6_ n7_;clear hb hbox hg;have hnb63:=NB432_426.out;have hnc63:=NB426_432.out;have hcz64_0:w62.cell? ⟨gb432,0,none⟩ = some (.int .i64 0):=(blk_cell BK432.out 0).trans rfl;have hcz64_1:w62.cell? ⟨gb432,1,none⟩ = some (.int .i64 0):=(blk_cell BK432.out 1).trans rfl;have hcz64_2:w62.cell? ⟨gb432,2,none⟩ = some (.int .i64 0):=(blk_cell BK432.out 2).trans rfl;have hcz64_3:w62.cell? ⟨gb432,3,none⟩ = some (.int .i64 0):=(blk_cell BK432.out 3).trans rfl;have hfz64_0:=blk_frozen BK432.out 0;have hfz64_1:=blk_frozen BK432.out 1;have hfz64_2:=blk_frozen BK432.out 2;have hfz64_3:=blk_frozen BK432.out 3;have hcz65_0:w62.cell? ⟨gb426,0,none⟩ = some (.int .i64 t421):=(blk_cell BK426.out 0).trans rfl;have hcz65_1:w62.cell? ⟨gb426,1,none⟩ = some (.int .i64 t422):=(blk_cell BK426.out 1).trans rfl;have hcz65_2:w62.cell? ⟨gb426,2,none⟩ = some (.int .i64 t423):=(blk_cell BK426.out 2).trans rfl;have hcz65_3:w62.cell? ⟨gb426,3,none⟩ = some (.int .i64 t424):=(blk_cell BK426.out 3).trans rfl;have hfz65_0:=blk_frozen BK426.out 0;have hfz65_1:=blk_frozen BK426.out 1;have hfz65_2:=blk_frozen BK426.out 2;have hfz65_3:=blk_frozen BK426.out 3) | (go_at_call 22;(with_reducible refine (numnahlaw01_awake.calls  t433 _ A56.out).mono ?_);rintro e w66 ⟨rfl,hb⟩;have n0_:=Aside0.mk (Kd.R_below (by (with_reducible repeat (first | apply Kd.R_alloc | apply Kd.R_drewN | apply Kd.R_drew));exact (Kd.R_mono (Kd.R_far (p:=⟨gb432,3,none⟩) (Kd.R_far (p:=⟨gb432,2,none⟩) (Kd.R_far (p:=⟨gb432,1,none⟩) (Kd.R_far (p:=⟨gb432,0,none⟩) (Kd.R_types HO_6.out BK432.out (by decide)) (fun _ hk=>hk.2) (.int .i64 t427)) (fun _ hk=>hk.2) (.int .i64 t428)) (fun _ hk=>hk.2) (.int .i64 t429)) (fun _ hk=>hk.2) (.int .i64 t430)) (fun _ h_=>h_.1))) hb);have n1_:=Aside0.mk (blk_below (g:=gb426) (o:=.cells #[.int .i64 t421,.int .i64 t422,.int .i64 t423,.int .i64 t424] 65 (0,0)) (by (with_reducible repeat (first | refine blk_drewN ?_ _ | refine blk_drew ?_ | refine blk_alloc ?_ _));refine blk_far ?_ NB426_432.out _;(with_reducible repeat (first | refine blk_drewN ?_ _ | refine blk_drew ?_ | refine blk_alloc ?_ _));refine blk_far ?_ NB426_432.out _;(with_reducible repeat (first | refine blk_drewN ?_ _ | refine blk_drew ?_ | refine blk_alloc ?_ _));refine blk_far ?_ NB426_432.out _;(with_reducible repeat (first | refine blk_drewN ?_ _ | refine blk_drew ?_ | refine blk_alloc ?_ _));refine blk_far ?_ NB426_432.out _;(with_reducible repeat (first | refine blk_drewN ?_ _ | refine blk_drew ?_ | refine blk_alloc ?_ _));exact BK426.out) hb);have n2_:=Aside0.mk (blk_below (g:=gb432) (o:=.cells #[.int .i64 t427,.int .i64 t428,.int .i64 t429,.int .i64 t430] 65 (0,0)) (by (with_reducible repeat (first | refine blk_drewN ?_ _ | refine blk_drew ?_ | refine blk_alloc ?_ _));refine blk_put (cs:=#[.int .i64 t427,.int .i64 t428,.int .i64 t429,.int .i64 0]) ?_ 3 _ rfl;(with_reducible repeat (first | refine blk_drewN ?_ _ | refine blk_drew ?_ | refine blk_alloc ?_ _));refine blk_put (cs:=#[.int .i64 t427,.int .i64 t428,.int .i64 0,.int .i64 0]) ?_ 2 _ rfl;(with_reducible repeat (first | refine blk_drewN ?_ _ | refine blk_drew ?_ | refine blk_alloc ?_ _));refine blk_put (cs:=#[.int .i64 t427,.int .i64 0,.int .i64 0,.int .i64 0]) ?_ 1 _ rfl;(with_reducible repeat (first | refine blk_drewN ?_ _ | refine blk_drew ?_ | refine blk_alloc ?_ _));refine blk_put (cs:=#[.int .i64 0,.int .i64 0,.int .i64 0,.int .i64 0]) ?_ 0 _ rfl;(with_reducible repeat (first | refine blk_drewN ?_ _ | refine blk_drew ?_ | refine blk_alloc ?_ _));exact BK432.out) hb);have n3_:=Aside0.mk (below_step (by repeat (first | (with_reducible first | exact HB.out | apply below_alloc | apply pw_below_drewN | apply below_drew1 | refine below_set ?_ GE426.out | refine below_set ?_ GE432.out) | exact HB.out)) hb);clear HO_6;clear BK426;clear BK432;clear HB;have HO_6:=n0_;have BK426:=n1_;have BK432:=n2_;have HB:=n3_;clear n0_ n1_ n2_ n3_;(try clear hb)));try go_wp2_with (first | (go_at_call 49;(with_reducible refine (card_Measures.calls k1 t417 t421 t422 t423 t424 t425 _ A11.out).mono ?_);rintro e w57 ⟨rfl,hb⟩;have n0_:=Aside0.mk (Kd.R_below (by (with_reducible repeat (first | apply Kd.R_alloc | apply Kd.R_drewN | apply Kd.R_drew));exact HO_6.out) hb);have n1_:=Aside0.mk (below_step (by repeat (first | (with_reducible first | exact HB.out | apply below_alloc | apply pw_below_drewN | apply below_drew1) | exact HB.out)) hb);clear HO_6;clear HB;have HO_6:=n0_;have HB:=n1_;clear n0_ n1_;(try clear hb)) | ((with_reducible refine gate_dst (N:=8) rfl ?_);refine box_event ?hg (N:=8) ?hd (cs:=#[.int .i64 0,.int .i64 0,.int .i64 0,.int .i64 0]) (t:=65) ?hr ?_;(case hd=>rfl);(case hg=>rfl);(case hr=>first | (go_simp;done) | (go_simp;rfl));intro gb426 hg w58 hbox hb;have n0_:=Aside0.mk (Kd.R_below (by (with_reducible repeat (first | apply Kd.R_alloc | apply Kd.R_drewN | apply Kd.R_drew));exact HO_6.out) hb);have n1_:=Aside0.mk (below_step (by repeat (first | (with_reducible first | exact HB.out | apply below_alloc | apply pw_below_drewN | apply below_drew1) | exact HB.out)) hb);have n2_:=Aside0.mk (hbox);have n3_:=Aside0.mk ((by rw [hg];exact (below_size (by repeat (first | (with_reducible first | exact HB.out | apply below_alloc | apply pw_below_drewN | apply below_drew1) | exact HB.out))):w.heap.size ≤ gb426));have n4_:=Aside0.mk ((by rw [hg];exact (below_size (by repeat (first | (with_reducible first | exact HB.out | apply below_alloc | apply pw_below_drewN | apply below_drew1) | exact HB.out))):w.heap.size ≤ gb426));clear HO_6;clear HB;have HO_6:=n0_;have HB:=n1_;have BK426:=n2_;have GW426:=n3_;have GE426:=n4_;clear n0_ n1_ n2_ n3_ n4_;clear hb hbox hg;have hcz59_0:w58.cell? ⟨gb426,0,none⟩ = some (.int .i64 0):=(blk_cell BK426.out 0).trans rfl;have hcz59_1:w58.cell? ⟨gb426,1,none⟩ = some (.int .i64 0):=(blk_cell BK426.out 1).trans rfl;have hcz59_2:w58.cell? ⟨gb426,2,none⟩ = some (.int .i64 0):=(blk_cell BK426.out 2).trans rfl;have hcz59_3:w58.cell? ⟨gb426,3,none⟩ = some (.int .i64 0):=(blk_cell BK426.out 3).trans rfl;have hfz59_0:=blk_frozen BK426.out 0;have hfz59_1:=blk_frozen BK426.out 1;have hfz59_2:=blk_frozen BK426.out 2;have hfz59_3:=blk_frozen BK426.out 3;have hcv60:=own_string (P:=Try.prog) Try.underlying42 Try.underlying5 Try.underlying9 (Kd.own_of_R HO_6.out);have hcvB:=own_string (P:=Try.prog) Try.underlying42 Try.underlying5 Try.underlying9 (Kd.own_of_R (Kd.R_far (p:=⟨gb426,3,none⟩) (Kd.R_far (p:=⟨gb426,2,none⟩) (Kd.R_far (p:=⟨gb426,1,none⟩) (Kd.R_far (p:=⟨gb426,0,none⟩) (Kd.R_types HO_6.out BK426.out (by decide)) (fun _ hk=>hk.2) (.int .i64 t421)) (fun _ hk=>hk.2) (.int .i64 t422)) (fun _ hk=>hk.2) (.int .i64 t423)) (fun _ hk=>hk.2) (.int .i64 t424)))) | (go_at_call 49;(with_reducible refine (card_Measures.calls k1 (strOfNums x6_1) t427 t428 t429 t430 t431 _ A12.out).mono ?_);rintro e w61 ⟨rfl,hb⟩;have n0_:=Aside0.mk (Kd.R_below (by (with_reducible repeat (first | apply Kd.R_alloc | apply Kd.R_drewN | apply Kd.R_drew));exact (Kd.R_mono (Kd.R_far (p:=⟨gb426,3,none⟩) (Kd.R_far (p:=⟨gb426,2,none⟩) (Kd.R_far (p:=⟨gb426,1,none⟩) (Kd.R_far (p:=⟨gb426,0,none⟩) (Kd.R_types HO_6.out BK426.out (by decide)) (fun _ hk=>hk.2) (.int .i64 t421)) (fun _ hk=>hk.2) (.int .i64 t422)) (fun _ hk=>hk.2) (.int .i64 t423)) (fun _ hk=>hk.2) (.int .i64 t424)) (fun _ h_=>h_.1))) hb);have n1_:=Aside0.mk (blk_below (g:=gb426) (o:=.cells #[.int .i64 t421,.int .i64 t422,.int .i64 t423,.int .i64 t424] 65 (0,0)) (by (with_reducible repeat (first | refine blk_drewN ?_ _ | refine blk_drew ?_ | refine blk_alloc ?_ _));refine blk_put (cs:=#[.int .i64 t421,.int .i64 t422,.int .i64 t423,.int .i64 0]) ?_ 3 _ rfl;(with_reducible repeat (first | refine blk_drewN ?_ _ | refine blk_drew ?_ | refine blk_alloc ?_ _));refine blk_put (cs:=#[.int .i64 t421,.int .i64 t422,.int .i64 0,.int .i64 0]) ?_ 2 _ rfl;(with_reducible repeat (first | refine blk_drewN ?_ _ | refine blk_drew ?_ | refine blk_alloc ?_ _));refine blk_put (cs:=#[.int .i64 t421,.int .i64 0,.int .i64 0,.int .i64 0]) ?_ 1 _ rfl;(with_reducible repeat (first | refine blk_drewN ?_ _ | refine blk_drew ?_ | refine blk_alloc ?_ _));refine blk_put (cs:=#[.int .i64 0,.int .i64 0,.int .i64 0,.int .i64 0]) ?_ 0 _ rfl;(with_reducible repeat (first | refine blk_drewN ?_ _ | refine blk_drew ?_ | refine blk_alloc ?_ _));exact BK426.out) hb);have n2_:=Aside0.mk (below_step (by repeat (first | (with_reducible first | exact HB.out | apply below_alloc | apply pw_below_drewN | apply below_drew1 | refine below_set ?_ GE426.out) | exact HB.out)) hb);clear HO_6;clear BK426;clear HB;have HO_6:=n0_;have BK426:=n1_;have HB:=n2_;clear n0_ n1_ n2_;(try clear hb)) | ((with_reducible refine gate_dst (N:=10) rfl ?_);refine box_event ?hg (N:=10) ?hd (cs:=#[.int .i64 0,.int .i64 0,.int .i64 0,.int .i64 0]) (t:=65) ?hr ?_;(case hd=>rfl);(case hg=>rfl);(case hr=>first | (go_simp;done) | (go_simp;rfl));intro gb432 hg w62 hbox hb;have n0_:=Aside0.mk (Kd.R_below (by (with_reducible repeat (first | apply Kd.R_alloc | apply Kd.R_drewN | apply Kd.R_drew));exact HO_6.out) hb);have n1_:=Aside0.mk (blk_below (g:=gb426) (o:=.cells #[.int .i64 t421,.int .i64 t422,.int .i64 t423,.int .i64 t424] 65 (0,0)) (by (with_reducible repeat (first | refine blk_drewN ?_ _ | refine blk_drew ?_ | refine blk_alloc ?_ _));exact BK426.out) hb);have n2_:=Aside0.mk (below_step (by repeat (first | (with_reducible first | exact HB.out | apply below_alloc | apply pw_below_drewN | apply below_drew1 | refine below_set ?_ GE426.out) | exact HB.out)) hb);have n3_:=Aside0.mk (hbox);have n4_:=Aside0.mk ((by rw [hg];exact (below_size (by repeat (first | (with_reducible first | exact HB.out | apply below_alloc | apply pw_below_drewN | apply below_drew1 | refine below_set ?_ GE426.out) | exact HB.out))):w.heap.size ≤ gb432));have n5_:=Aside0.mk ((by rw [hg];exact (below_size (by repeat (first | (with_reducible first | exact HB.out | apply below_alloc | apply pw_below_drewN | apply below_drew1 | refine below_set ?_ GE426.out) | exact HB.out))):w.heap.size ≤ gb432));have n6_:=Aside0.mk ((by rw [hg];exact Nat.ne_of_lt (blk_lt (g:=gb426) (o:=.cells #[.int .i64 t421,.int .i64 t422,.int .i64 t423,.int .i64 t424] 65 (0,0)) (by (with_reducible repeat (first | refine blk_drewN ?_ _ | refine blk_drew ?_ | refine blk_alloc ?_ _));exact BK426.out)):gb426 ≠ gb432));have n7_:=Aside0.mk ((by rw [hg];exact Nat.ne_of_gt (blk_lt (g:=gb426) (o:=.cells #[.int .i64 t421,.int .i64 t422,.int .i64 t423,.int .i64 t424] 65 (0,0)) (by (with_reducible repeat (first | refine blk_drewN ?_ _ | refine blk_drew ?_ | refine blk_alloc ?_ _));exact BK426.out)):gb432 ≠ gb426));clear HO_6;clear BK426;clear HB;have HO_6:=n0_;have BK426:=n1_;have HB:=n2_;have BK432:=n3_;have GW432:=n4_;have GE432:=n5_;have NB426_432:=n6_;have NB432_426:=n7_;clear n0_ n1_ n2_ n3_ n4_ n5_ n6_ n7_;clear hb hbox hg;have hnb63:=NB432_426.out;have hnc63:=NB426_432.out;have hcz64_0:w62.cell? ⟨gb432,0,none⟩ = some (.int .i64 0):=(blk_cell BK432.out 0).trans rfl;have hcz64_1:w62.cell? ⟨gb432,1,none⟩ = some (.int .i64 0):=(blk_cell BK432.out 1).trans rfl;have hcz64_2:w62.cell? ⟨gb432,2,none⟩ = some (.int .i64 0):=(blk_cell BK432.out 2).trans rfl;have hcz64_3:w62.cell? ⟨gb432,3,none⟩ = some (.int .i64 0):=(blk_cell BK432.out 3).trans rfl;have hfz64_0:=blk_frozen BK432.out 0;have hfz64_1:=blk_frozen BK432.out 1;have hfz64_2:=blk_frozen BK432.out 2;have hfz64_3:=blk_frozen BK432.out 3;have hcz65_0:w62.cell? ⟨gb426,0,none⟩ = some (.int .i64 t421):=(blk_cell BK426.out 0).trans rfl;have hcz65_1:w62.cell? ⟨gb426,1,none⟩ = some (.int .i64 t422):=(blk_cell BK426.out 1).trans rfl;have hcz65_2:w62.cell? ⟨gb426,2,none⟩ = some (.int .i64 t423):=(blk_cell BK426.out 2).trans rfl;have hcz65_3:w62.cell? ⟨gb426,3,none⟩ = some (.int .i64 t424):=(blk_cell BK426.out 3).trans rfl;have hfz65_0:=blk_frozen BK426.out 0;have hfz65_1:=blk_frozen BK426.out 1;have hfz65_2:=blk_frozen BK426.out 2;have hfz65_3:=blk_frozen BK426.out 3) | (go_at_call 22;(with_reducible refine (numnahlaw01_awake.calls  t433 _ A56.out).mono ?_);rintro e w66 ⟨rfl,hb⟩;have n0_:=Aside0.mk (Kd.R_below (by (with_reducible repeat (first | apply Kd.R_alloc | apply Kd.R_drewN | apply Kd.R_drew));exact (Kd.R_mono (Kd.R_far (p:=⟨gb432,3,none⟩) (Kd.R_far (p:=⟨gb432,2,none⟩) (Kd.R_far (p:=⟨gb432,1,none⟩) (Kd.R_far (p:=⟨gb432,0,none⟩) (Kd.R_types HO_6.out BK432.out (by decide)) (fun _ hk=>hk.2) (.int .i64 t427)) (fun _ hk=>hk.2) (.int .i64 t428)) (fun _ hk=>hk.2) (.int .i64 t429)) (fun _ hk=>hk.2) (.int .i64 t430)) (fun _ h_=>h_.1))) hb);have n1_:=Aside0.mk (blk_below (g:=gb426) (o:=.cells #[.int .i64 t421,.int .i64 t422,.int .i64 t423,.int .i64 t424] 65 (0,0)) (by (with_reducible repeat (first | refine blk_drewN ?_ _ | refine blk_drew ?_ | refine blk_alloc ?_ _));refine blk_far ?_ NB426_432.out _;(with_reducible repeat (first | refine blk_drewN ?_ _ | refine blk_drew ?_ | refine blk_alloc ?_ _));refine blk_far ?_ NB426_432.out _;(with_reducible repeat (first | refine blk_drewN ?_ _ | refine blk_drew ?_ | refine blk_alloc ?_ _));refine blk_far ?_ NB426_432.out _;(with_reducible repeat (first | refine blk_drewN ?_ _ | refine blk_drew ?_ | refine blk_alloc ?_ _));refine blk_far ?_ NB426_432.out _;(with_reducible repeat (first | refine blk_drewN ?_ _ | refine blk_drew ?_ | refine blk_alloc ?_ _));exact BK426.out) hb);have n2_:=Aside0.mk (blk_below (g:=gb432) (o:=.cells #[.int .i64 t427,.int .i64 t428,.int .i64 t429,.int .i64 t430] 65 (0,0)) (by (with_reducible repeat (first | refine blk_drewN ?_ _ | refine blk_drew ?_ | refine blk_alloc ?_ _));refine blk_put (cs:=#[.int .i64 t427,.int .i64 t428,.int .i64 t429,.int .i64 0]) ?_ 3 _ rfl;(with_reducible repeat (first | refine blk_drewN ?_ _ | refine blk_drew ?_ | refine blk_alloc ?_ _));refine blk_put (cs:=#[.int .i64 t427,.int .i64 t428,.int .i64 0,.int .i64 0]) ?_ 2 _ rfl;(with_reducible repeat (first | refine blk_drewN ?_ _ | refine blk_drew ?_ | refine blk_alloc ?_ _));refine blk_put (cs:=#[.int .i64 t427,.int .i64 0,.int .i64 0,.int .i64 0]) ?_ 1 _ rfl;(with_reducible repeat (first | refine blk_drewN ?_ _ | refine blk_drew ?_ | refine blk_alloc ?_ _));refine blk_put (cs:=#[.int .i64 0,.int .i64 0,.int .i64 0,.int .i64 0]) ?_ 0 _ rfl;(with_reducible repeat (first | refine blk_drewN ?_ _ | refine blk_drew ?_ | refine blk_alloc ?_ _));exact BK432.out) hb);have n3_:=Aside0.mk (below_step (by repeat (first | (with_reducible first | exact HB.out | apply below_alloc | apply pw_below_drewN | apply below_drew1 | refine below_set ?_ GE426.out | refine below_set ?_ GE432.out) | exact HB.out)) hb);clear HO_6;clear BK426;clear BK432;clear HB;have HO_6:=n0_;have BK426:=n1_;have BK432:=n2_;have HB:=n3_;clear n0_ n1_ n2_ n3_;(try clear hb))))
    go_ret
    exact ⟨by first | rfl | (simp [errW_none,errW_some] <;> rfl) | (simp only [← hji45,← hji47];first | rfl | (simp [errW_none,errW_some] <;> rfl)) | (simp [*,errW_none,errW_some] <;> rfl),by repeat (first | (with_reducible first | exact HB.out | apply below_alloc | apply pw_below_drewN | apply below_drew1 | refine below_set ?_ GE426.out | refine below_set ?_ GE432.out) | exact HB.out)⟩
   rw [if_neg c49] at H
   have c49b0:(t424 == 0) = false:=beq_eq_false_iff_ne.mpr c49
   have c49b1:(t424 != 0) = true:=bne_iff_ne.mpr c49
   have c121b0:=eq_true (of_decide_eq_true (by first | (with_reducible assumption) | assumption):0 ≤ (ji45))
   by_cases c122:t422 = t428
   case neg =>
    rw [if_neg c122] at H
    exact absurd ((Option.some.inj H).trans hrt_) (by decide)
   rw [if_pos c122] at H
   have c122b0:(t422 == t428) = true:=beq_iff_eq.mpr c122
   have c122b1:(t422 != t428) = false:=bne_eq_false_iff_eq.mpr c122
   clear c122
   by_cases c123:t423 = t429
   case neg =>
    rw [if_neg c123] at H
    exact absurd ((Option.some.inj H).trans hrt_) (by decide)
   rw [if_pos c123] at H
   have c123b0:(t423 == t429) = true:=beq_iff_eq.mpr c123
   have c123b1:(t423 != t429) = false:=bne_eq_false_iff_eq.mpr c123
   clear c123
   by_cases c124:t421 = t427
   case neg =>
    rw [if_neg c124] at H
    exact absurd ((Option.some.inj H).trans hrt_) (by decide)
   rw [if_pos c124] at H
   have c124b0:(t421 == t427) = true:=beq_iff_eq.mpr c124
   have c124b1:(t421 != t427) = false:=bne_eq_false_iff_eq.mpr c124
   clear c124
   by_cases c125:((t424 == (ji47)) == (t422 == 0)) = true
   case neg =>
    rw [if_neg c125] at H
    exact absurd ((Option.some.inj H).trans hrt_) (by decide)
   rw [if_pos c125] at H
   have c125b0:((t424 == (ji47)) == (t422 == 0)) = true:=c125
   (try (have c125b1:decide ((t424 == (ji47)) = (t422 == 0)) = true:=by simpa using c125))
   (try (have c125b2:((t424 == (ji47)) == (t422 == 0)) = true:=by simpa using c125))
   clear c125
   by_cases c126:((t424 == (ji47)) == (t423 == 0)) = true
   case neg =>
    rw [if_neg c126] at H
    exact absurd ((Option.some.inj H).trans hrt_) (by decide)
   rw [if_pos c126] at H
   have c126b0:((t424 == (ji47)) == (t423 == 0)) = true:=c126
   (try (have c126b1:decide ((t424 == (ji47)) = (t423 == 0)) = true:=by simpa using c126))
   (try (have c126b2:((t424 == (ji47)) == (t423 == 0)) = true:=by simpa using c126))
   clear c126
   by_cases c127:((t424 == (ji47)) == (t421 == 0)) = true
   case neg =>
    rw [if_neg c127] at H
    exact absurd ((Option.some.inj H).trans hrt_) (by decide)
   rw [if_pos c127] at H
   have c127b0:((t424 == (ji47)) == (t421 == 0)) = true:=c127
   (try (have c127b1:decide ((t424 == (ji47)) = (t421 == 0)) = true:=by simpa using c127))
   (try (have c127b2:((t424 == (ji47)) == (t421 == 0)) = true:=by simpa using c127))
   clear c127
   replace H:=Option.bind_eq_some_iff.mp H
   obtain ⟨t434,A1280,H⟩:=H
   replace H:(some t434) = some r:=H
   have A128:=Aside0.mk A1280
   clear A1280
   obtain rfl:=Option.some.inj H
   go_wp2_with (first | (go_at_call 49;(with_reducible refine (card_Measures.calls k1 t417 t421 t422 t423 t424 t425 _ A11.out).mono ?_);rintro e w129 ⟨rfl,hb⟩;have n0_:=Aside0.mk (Kd.R_below (by (with_reducible repeat (first | apply Kd.R_alloc | apply Kd.R_drewN | apply Kd.R_drew));exact HO_6.out) hb);have n1_:=Aside0.mk (below_step (by repeat (first | (with_reducible first | exact HB.out | apply below_alloc | apply pw_below_drewN | apply below_drew1) | exact HB.out)) hb);clear HO_6;clear HB;have HO_6:=n0_;have HB:=n1_;clear n0_ n1_;(try clear hb)) | ((with_reducible refine gate_dst (N:=8) rfl ?_);refine box_event ?hg (N:=8) ?hd (cs:=#[.int .i64 0,.int .i64 0,.int .i64 0,.int .i64 0]) (t:=65) ?hr ?_;(case hd=>rfl);(case hg=>rfl);(case hr=>first | (go_simp;done) | (go_simp;rfl));intro gb426 hg w130 hbox hb;have n0_:=Aside0.mk (Kd.R_below (by (with_reducible repeat (first | apply Kd.R_alloc | apply Kd.R_drewN | apply Kd.R_drew));exact HO_6.out) hb);have n1_:=Aside0.mk (below_step (by repeat (first | (with_reducible first | exact HB.out | apply below_alloc | apply pw_below_drewN | apply below_drew1) | exact HB.out)) hb);have n2_:=Aside0.mk (hbox);have n3_:=Aside0.mk ((by rw [hg];exact (below_size (by repeat (first | (with_reducible first | exact HB.out | apply below_alloc | apply pw_below_drewN | apply below_drew1) | exact HB.out))):w.heap.size ≤ gb426));have n4_:=Aside0.mk ((by rw [hg];exact (below_size (by repeat (first | (with_reducible first | exact HB.out | apply below_alloc | apply pw_below_drewN | apply below_drew1) | exact HB.out))):w.heap.size ≤ gb426));clear HO_6;clear HB;have HO_6:=n0_;have HB:=n1_;have BK426:=n2_;have GW426:=n3_;have GE426:=n4_;clear n0_ n1_ n2_ n3_ n4_;clear hb hbox hg;have hcz131_0:w130.cell? ⟨gb426,0,none⟩ = some (.int .i64 0):=(blk_cell BK426.out 0).trans rfl;have hcz131_1:w130.cell? ⟨gb426,1,none⟩ = some (.int .i64 0):=(blk_cell BK426.out 1).trans rfl;have hcz131_2:w130.cell? ⟨gb426,2,none⟩ = some (.int .i64 0):=(blk_cell BK426.out 2).trans rfl;have hcz131_3:w130.cell? ⟨gb426,3,none⟩ = some (.int .i64 0):=(blk_cell BK426.out 3).trans rfl;have hfz131_0:=blk_frozen BK426.out 0;have hfz131_1:=blk_frozen BK426.out 1;have hfz131_2:=blk_frozen BK426.out 2;have hfz131_3:=blk_frozen BK426.out 3;have hcv132:=own_string (P:=Try.prog) Try.underlying42 Try.underlying5 Try.underlying9 (Kd.own_of_R HO_6.out);have hcvB:=own_string (P:=Try.prog) Try.underlying42 Try.underlying5 Try.underlying9 (Kd.own_of_R (Kd.R_far (p:=⟨gb426,3,none⟩) (Kd.R_far (p:=⟨gb426,2,none⟩) (Kd.R_far (p:=⟨gb426,1,none⟩) (Kd.R_far (p:=⟨gb426,0,none⟩) (Kd.R_types HO_6.out BK426.out (by decide)) (fun _ hk=>hk.2) (.int .i64 t421)) (fun _ hk=>hk.2) (.int .i64 t422)) (fun _ hk=>hk.2) (.int .i64 t423)) (fun _ hk=>hk.2) (.int .i64 t424)))) | (go_at_call 49;(with_reducible refine (card_Measures.calls k1 (strOfNums x6_1) t427 t428 t429 t430 t431 _ A12.out).mono ?_);rintro e w133 ⟨rfl,hb⟩;have n0_:=Aside0.mk (Kd.R_below (by (with_reducible repeat (first | apply Kd.R_alloc | apply Kd.R_drewN | apply Kd.R_drew));exact (Kd.R_mono (Kd.R_far (p:=⟨gb426,3,none⟩) (Kd.R_far (p:=⟨gb426,2,none⟩) (Kd.R_far (p:=⟨gb426,1,none⟩) (Kd.R_far (p:=⟨gb426,0,none⟩) (Kd.R_types HO_6.out BK426.out (by decide)) (fun _ hk=>hk.2) (.int .i64 t421)) (fun _ hk=>hk.2) (.int .i64 t422)) (fun _ hk=>hk.2) (.int .i64 t423)) (fun _ hk=>hk.2) (.int .i64 t424)) (fun _ h_=>h_.1))) hb);have n1_:=Aside0.mk (blk_below (g:=gb426) (o:=.cells #[.int .i64 t421,.int .i64 t422,.int .i64 t423,.int .i64 t424] 65 (0,0)) (by (with_reducible repeat (first | refine blk_drewN ?_ _ | refine blk_drew ?_ | refine blk_alloc ?_ _));refine blk_put (cs:=#[.int .i64 t421,.int .i64 t422,.int .i64 t423,.int .i64 0]) ?_ 3 _ rfl;(with_reducible repeat (first | refine blk_drewN ?_ _ | refine blk_drew ?_ | refine blk_alloc ?_ _));refine blk_put (cs:=#[.int .i64 t421,.int .i64 t422,.int .i64 0,.int .i64 0]) ?_ 2 _ rfl;(with_reducible repeat (first | refine blk_drewN ?_ _ | refine blk_drew ?_ | refine blk_alloc ?_ _));refine blk_put (cs:=#[.int .i64 t421,.int .i64 0,.int .i64 0,.int .i64 0]) ?_ 1 _ rfl;(with_reducible repeat (first | refine blk_drewN ?_ _ | refine blk_drew ?_ | refine blk_alloc ?_ _));refine blk_put (cs:=#[.int .i64 0,.int .i64 0,.int .i64 0,.int .i64 0]) ?_ 0 _ rfl;(with_reducible repeat (first | refine blk_drewN ?_ _ | refine blk_drew ?_ | refine blk_alloc ?_ _));exact BK426.out) hb);have n2_:=Aside0.mk (below_step (by repeat (first | (with_reducible first | exact HB.out | apply below_alloc | apply pw_below_drewN | apply below_drew1 | refine below_set ?_ GE426.out) | exact HB.out)) hb);clear HO_6;clear BK426;clear HB;have HO_6:=n0_;have BK426:=n1_;have HB:=n2_;clear n0_ n1_ n2_;(try clear hb)) | ((with_reducible refine gate_dst (N:=10) rfl ?_);refine box_event ?hg (N:=10) ?hd (cs:=#[.int .i64 0,.int .i64 0,.int .i64 0,.int .i64 0]) (t:=65) ?hr ?_;(case hd=>rfl);(case hg=>rfl);(case hr=>first | (go_simp;done) | (go_simp;rfl));intro gb432 hg w134 hbox hb;have n0_:=Aside0.mk (Kd.R_below (by (with_reducible repeat (first | apply Kd.R_alloc | apply Kd.R_drewN | apply Kd.R_drew));exact HO_6.out) hb);have n1_:=Aside0.mk (blk_below (g:=gb426) (o:=.cells #[.int .i64 t421,.int .i64 t422,.int .i64 t423,.int .i64 t424] 65 (0,0)) (by (with_reducible repeat (first | refine blk_drewN ?_ _ | refine blk_drew ?_ | refine blk_alloc ?_ _));exact BK426.out) hb);have n2_:=Aside0.mk (below_step (by repeat (first | (with_reducible first | exact HB.out | apply below_alloc | apply pw_below_drewN | apply below_drew1 | refine below_set ?_ GE426.out) | exact HB.out)) hb);have n3_:=Aside0.mk (hbox);have n4_:=Aside0.mk ((by rw [hg];exact (below_size (by repeat (first | (with_reducible first | exact HB.out | apply below_alloc | apply pw_below_drewN | apply below_drew1 | refine below_set ?_ GE426.out) | exact HB.out))):w.heap.size ≤ gb432));have n5_:=Aside0.mk ((by rw [hg];exact (below_size (by repeat (first | (with_reducible first | exact HB.out | apply below_alloc | apply pw_below_drewN | apply below_drew1 | refine below_set ?_ GE426.out) | exact HB.out))):w.heap.size ≤ gb432));have n6_:=Aside0.mk ((by rw [hg];exact Nat.ne_of_lt (blk_lt (g:=gb426) (o:=.cells #[.int .i64 t421,.int .i64 t422,.int .i64 t423,.int .i64 t424] 65 (0,0)) (by (with_reducible repeat (first | refine blk_drewN ?_ _ | refine blk_drew ?_ | refine blk_alloc ?_ _));exact BK426.out)):gb426 ≠ gb432));have n7_:=Aside0.mk ((by rw [hg];exact Nat.ne_of_gt (blk_lt (g:=gb426) (o:=.cells #[.int .i64 t421,.int .i64 t422,.int .i64 t423,.int .i64 t424] 65 (0,0)) (by (with_reducible repeat (first | refine blk_drewN ?_ _ | refine blk_drew ?_ | refine blk_alloc ?_ _));exact BK426.out)):gb432 ≠ gb426));clear HO_6;clear BK426;clear HB;have HO_6:=n0_;have BK426:=n1_;have HB:=n2_;have BK432:=n3_;have GW432:=n4_;have GE432:=n5_;have NB426_432:=n6_;have NB432_426:=n7_;clear n0_ n1_ n2_ n3_ n4_ n5_ n6_ n7_;clear hb hbox hg;have hnb135:=NB432_426.out;have hnc135:=NB426_432.out;have hcz136_0:w134.cell? ⟨gb432,0,none⟩ = some (.int .i64 0):=(blk_cell BK432.out 0).trans rfl;have hcz136_1:w134.cell? ⟨gb432,1,none⟩ = some (.int .i64 0):=(blk_cell BK432.out 1).trans rfl;have hcz136_2:w134.cell? ⟨gb432,2,none⟩ = some (.int .i64 0):=(blk_cell BK432.out 2).trans rfl;have hcz136_3:w134.cell? ⟨gb432,3,none⟩ = some (.int .i64 0):=(blk_cell BK432.out 3).trans rfl;have hfz136_0:=blk_frozen BK432.out 0;have hfz136_1:=blk_frozen BK432.out 1;have hfz136_2:=blk_frozen BK432.out 2;have hfz136_3:=blk_frozen BK432.out 3;have hcz137_0:w134.cell? ⟨gb426,0,none⟩ = some (.int .i64 t421):=(blk_cell BK426.out 0).trans rfl;have hcz137_1:w134.cell? ⟨gb426,1,none⟩ = some (.int .i64 t422):=(blk_cell BK426.out 1).trans rfl;have hcz137_2:w134.cell? ⟨gb426,2,none⟩ = some (.int .i64 t423):=(blk_cell BK426.out 2).trans rfl;have hcz137_3:w134.cell? ⟨gb426,3,none⟩ = some (.int .i64 t424):=(blk_cell BK426.out 3).trans rfl;have hfz137_0:=blk_frozen BK426.out 0;have hfz137_1:=blk_frozen BK426.out 1;have hfz137_2:=blk_frozen BK426.out 2;have hfz137_3:=blk_frozen BK426.out 3) | (go_at_call 22;(with_reducible refine (numnahlaw01_awake.calls  t434 _ A128.out).mono ?_);rintro e w138 ⟨rfl,hb⟩;have n0_:=Aside0.mk (Kd.R_below (by (with_reducible repeat (first | apply Kd.R_alloc | apply Kd.R_drewN | apply Kd.R_drew));exact (Kd.R_mono (Kd.R_far (p:=⟨gb432,3,none⟩) (Kd.R_far (p:=⟨gb432,2,none⟩) (Kd.R_far (p:=⟨gb432,1,none⟩) (Kd.R_far (p:=⟨gb432,0,none⟩) (Kd.R_types HO_6.out BK432.out (by decide)) (fun _ hk=>hk.2) (.int .i64 t427)) (fun _ hk=>hk.2) (.int .i64 t428)) (fun _ hk=>hk.2) (.int .i64 t429)) (fun _ hk=>hk.2) (.int .i64 t430)) (fun _ h_=>h_.1))) hb);have n1_:=Aside0.mk (blk_below (g:=gb426) (o:=.cells #[.int .i64 t421,.int .i64 t422,.int .i64 t423,.int .i64 t424] 65 (0,0)) (by (with_reducible repeat (first | refine blk_drewN ?_ _ | refine blk_drew ?_ | refine blk_alloc ?_ _));refine blk_far ?_ NB426_432.out _;(with_reducible repeat (first | refine blk_drewN ?_ _ | refine blk_drew ?_ | refine blk_alloc ?_ _));refine blk_far ?_ NB426_432.out _;(with_reducible repeat (first | refine blk_drewN ?_ _ | refine blk_drew ?_ | refine blk_alloc ?_ _));refine blk_far ?_ NB426_432.out _;(with_reducible repeat (first | refine blk_drewN ?_ _ | refine blk_drew ?_ | refine blk_alloc ?_ _));refine blk_far ?_ NB426_432.out _;(with_reducible repeat (first | refine blk_drewN ?_ _ | refine blk_drew ?_ | refine blk_alloc ?_ _));exact BK426.out) hb);have n2_:=Aside0.mk (blk_below (g:=gb432) (o:=.cells #[.int .i64 t427,.int .i64 t428,.int .i64 t429,.int .i64 t430] 65 (0,0)) (by (with_reducible repeat (first | refine blk_drewN ?_ _ | refine blk_drew ?_ | refine blk_alloc ?_ _));refine blk_put (cs:=#[.int .i64 t427,.int .i64 t428,.int .i64 t429,.int .i64 0]) ?_ 3 _ rfl;(with_reducible repeat (first | refine blk_drewN ?_ _ | refine blk_drew ?_ | refine blk_alloc ?_ _));refine blk_put (cs:=#[.int .i64 t427,.int .i64 t428,.int .i64 0,.int .i64 0]) ?_ 2 _ rfl;(with_reducible repeat (first | refine blk_drewN ?_ _ | refine blk_drew ?_ | refine blk_alloc ?_ _));refine blk_put (cs:=#[.int .i64 t427,.int .i64 0,.int .i64 0,.int .i64 0]) ?_ 1 _ rfl;(with_reducible repeat (first | refine blk_drewN ?_ _ | refine blk_drew ?_ | refine blk_alloc ?_ _));refine blk_put (cs:=#[.int .i64 0,.int .i64 0,.int .i64 0,.int .i64 0]) ?_ 0 _ rfl;(with_reducible repeat (first | refine blk_drewN ?_ _ | refine blk_drew ?_ | refine blk_alloc ?_ _));exact BK432.out) hb);have n3_:=Aside0.mk (below_step (by repeat (first | (with_reducible first | exact HB.out | apply below_alloc | apply pw_below_drewN | apply below_drew1 | refine below_set ?_ GE426.out | refine below_set ?_ GE432.out) | exact HB.out)) hb);clear HO_6;clear BK426;clear BK432;clear HB;have HO_6:=n0_;have BK426:=n1_;have BK432:=n2_;have HB:=n3_;clear n0_ n1_ n2_ n3_;(try clear hb)))
   repeat (go_quiet (first | (go_at_call 49;(with_reducible refine (card_Measures.calls k1 t417 t421 t422 t423 t424 t425 _ A11.out).mono ?_);rintro e w129 ⟨rfl,hb⟩;have n0_:=Aside0.mk (Kd.R_below (by (with_reducible repeat (first | apply Kd.R_alloc | apply Kd.R_drewN | apply Kd.R_drew));exact HO_6.out) hb);have n1_:=Aside0.mk (below_step (by repeat (first | (with_reducible first | exact HB.out | apply below_alloc | apply pw_below_drewN | apply below_drew1) | exact HB.out)) hb);clear HO_6;clear HB;have HO_6:=n0_;have HB:=n1_;clear n0_ n1_;(try clear hb)) | ((with_reducible refine gate_dst (N:=8) rfl ?_);refine box_event ?hg (N:=8) ?hd (cs:=#[.int .i64 0,.int .i64 0,.int .i64 0,.int .i64 0]) (t:=65) ?hr ?_;(case hd=>rfl);(case hg=>rfl);(case hr=>first | (go_simp;done) | (go_simp;rfl));intro gb426 hg w130 hbox hb;have n0_:=Aside0.mk (Kd.R_below (by (with_reducible repeat (first | apply Kd.R_alloc | apply Kd.R_drewN | apply Kd.R_drew));exact HO_6.out) hb);have n1_:=Aside0.mk (below_step (by repeat (first | (with_reducible first | exact HB.out | apply below_alloc | apply pw_below_drewN | apply below_drew1) | exact HB.out)) hb);have n2_:=Aside0.mk (hbox);have n3_:=Aside0.mk ((by rw [hg];exact (below_size (by repeat (first | (with_reducible first | exact HB.out | apply below_alloc | apply pw_below_drewN | apply below_drew1) | exact HB.out))):w.heap.size ≤ gb426));have n4_:=Aside0.mk ((by rw [hg];exact (below_size (by repeat (first | (with_reducible first | exact HB.out | apply below_alloc | apply pw_below_drewN | apply below_drew1) | exact HB.out))):w.heap.size ≤ gb426));clear HO_6;clear HB;have HO_6:=n0_;have HB:=n1_;have BK426:=n2_;have GW426:=n3_;have GE426:=n4_;clear n0_ n1_ n2_ n3_ n4_;clear hb hbox hg;have hcz131_0:w130.cell? ⟨gb426,0,none⟩ = some (.int .i64 0):=(blk_cell BK426.out 0).trans rfl;have hcz131_1:w130.cell? ⟨gb426,1,none⟩ = some (.int .i64 0):=(blk_cell BK426.out 1).trans rfl;have hcz131_2:w130.cell? ⟨gb426,2,none⟩ = some (.int .i64 0):=(blk_cell BK426.out 2).trans rfl;have hcz131_3:w130.cell? ⟨gb426,3,none⟩ = some (.int .i64 0):=(blk_cell BK426.out 3).trans rfl;have hfz131_0:=blk_frozen BK426.out 0;have hfz131_1:=blk_frozen BK426.out 1;have hfz131_2:=blk_frozen BK426.out 2;have hfz131_3:=blk_frozen BK426.out 3;have hcv132:=own_string (P:=Try.prog) Try.underlying42 Try.underlying5 Try.underlying9 (Kd.own_of_R HO_6.out);have hcvB:=own_string (P:=Try.prog) Try.underlying42 Try.underlying5 Try.underlying9 (Kd.own_of_R (Kd.R_far (p:=⟨gb426,3,none⟩) (Kd.R_far (p:=⟨gb426,2,none⟩) (Kd.R_far (p:=⟨gb426,1,none⟩) (Kd.R_far (p:=⟨gb426,0,none⟩) (Kd.R_types HO_6.out BK426.out (by decide)) (fun _ hk=>hk.2) (.int .i64 t421)) (fun _ hk=>hk.2) (.int .i64 t422)) (fun _ hk=>hk.2) (.int .i64 t423)) (fun _ hk=>hk.2) (.int .i64 t424)))) | (go_at_call 49;(with_reducible refine (card_Measures.calls k1 (strOfNums x6_1) t427 t428 t429 t430 t431 _ A12.out).mono ?_);rintro e w133 ⟨rfl,hb⟩;have n0_:=Aside0.mk (Kd.R_below (by (with_reducible repeat (first | apply Kd.R_alloc | apply Kd.R_drewN | apply Kd.R_drew));exact (Kd.R_mono (Kd.R_far (p:=⟨gb426,3,none⟩) (Kd.R_far (p:=⟨gb426,2,none⟩) (Kd.R_far (p:=⟨gb426,1,none⟩) (Kd.R_far (p:=⟨gb426,0,none⟩) (Kd.R_types HO_6.out BK426.out (by decide)) (fun _ hk=>hk.2) (.int .i64 t421)) (fun _ hk=>hk.2) (.int .i64 t422)) (fun _ hk=>hk.2) (.int .i64 t423)) (fun _ hk=>hk.2) (.int .i64 t424)) (fun _ h_=>h_.1))) hb);have n1_:=Aside0.mk (blk_below (g:=gb426) (o:=.cells #[.int .i64 t421,.int .i64 t422,.int .i64 t423,.int .i64 t424] 65 (0,0)) (by (with_reducible repeat (first | refine blk_drewN ?_ _ | refine blk_drew ?_ | refine blk_alloc ?_ _));refine blk_put (cs:=#[.int .i64 t421,.int .i64 t422,.int .i64 t423,.int .i64 0]) ?_ 3 _ rfl;(with_reducible repeat (first | refine blk_drewN ?_ _ | refine blk_drew ?_ | refine blk_alloc ?_ _));refine blk_put (cs:=#[.int .i64 t421,.int .i64 t422,.int .i64 0,.int .i64 0]) ?_ 2 _ rfl;(with_reducible repeat (first | refine blk_drewN ?_ _ | refine blk_drew ?_ | refine blk_alloc ?_ _));refine blk_put (cs:=#[.int .i64 t421,.int .i64 0,.int .i64 0,.int .i64 0]) ?_ 1 _ rfl;(with_reducible repeat (first | refine blk_drewN ?_ _ | refine blk_drew ?_ | refine blk_alloc ?_ _));refine blk_put (cs:=#[.int .i64 0,.int .i64 0,.int .i64 0,.int .i64 0]) ?_ 0 _ rfl;(with_reducible repeat (first | refine blk_drewN ?_ _ | refine blk_drew ?_ | refine blk_alloc ?_ _));exact BK426.out) hb);have n2_:=Aside0.mk (below_step (by repeat (first | (with_reducible first | exact HB.out | apply below_alloc | apply pw_below_drewN | apply below_drew1 | refine below_set ?_ GE426.out) | exact HB.out)) hb);clear HO_6;clear BK426;clear HB;have HO_6:=n0_;have BK426:=n1_;have HB:=n2_;clear n0_ n1_ n2_;(try clear hb)) | ((with_reducible refine gate_dst (N:=10) rfl ?_);refine box_event ?hg (N:=10) ?hd (cs:=#[.int .i64 0,.int .i64 0,.int .i64 0,.int .i64 0]) (t:=65) ?hr ?_;(case hd=>rfl);(case hg=>rfl);(case hr=>first | (go_simp;done) | (go_simp;rfl));intro gb432 hg w134 hbox hb;have n0_:=Aside0.mk (Kd.R_below (by (with_reducible repeat (first | apply Kd.R_alloc | apply Kd.R_drewN | apply Kd.R_drew));exact HO_6.out) hb);have n1_:=Aside0.mk (blk_below (g:=gb426) (o:=.cells #[.int .i64 t421,.int .i64 t422,.int .i64 t423,.int .i64 t424] 65 (0,0)) (by (with_reducible repeat (first | refine blk_drewN ?_ _ | refine blk_drew ?_ | refine blk_alloc ?_ _));exact BK426.out) hb);have n2_:=Aside0.mk (below_step (by repeat (first | (with_reducible first | exact HB.out | apply below_alloc | apply pw_below_drewN | apply below_drew1 | refine below_set ?_ GE426.out) | exact HB.out)) hb);have n3_:=Aside0.mk (hbox);have n4_:=Aside0.mk ((by rw [hg];exact (below_size (by repeat (first | (with_reducible first | exact HB.out | apply below_alloc | apply pw_below_drewN | apply below_drew1 | refine below_set ?_ GE426.out) | exact HB.out))):w.heap.size ≤ gb432));have n5_:=Aside0.mk ((by rw [hg];exact (below_size (by repeat (first | (with_reducible first | exact HB.out | apply below_alloc | apply pw_below_drewN | apply below_drew1 | refine below_set ?_ GE426.out) | exact HB.out))):w.heap.size ≤ gb432));have n6_:=Aside0.mk ((by rw [hg];exact Nat.ne_of_lt (blk_lt (g:=gb426) (o:=.cells #[.int .i64 t421,.int .i64 t422,.int .i64 t423,.int .i64 t424] 65 (0,0)) (by (with_reducible repeat (first | refine blk_drewN ?_ _ | refine blk_drew ?_ | refine blk_alloc ?_ _));exact BK426.out)):gb426 ≠ gb432));have n7_:=Aside0.mk ((by rw [hg];exact Nat.ne_of_gt (blk_lt (g:=gb426) (o:=.cells #[.int .i64 t421,.int .i64 t422,.int .i64 t423,.int .i64 t424] 65 (0,0)) (by (with_reducible repeat (first | refine blk_drewN ?_ _ | refine blk_drew ?_ | refine blk_alloc ?_ _));exact BK426.out)):gb432 ≠ gb426));clear HO_6;clear BK426;clear HB;have HO_6:=n0_;have BK426:=n1_;have HB:=n2_;have BK432:=n3_;have GW432:=n4_;have GE432:=n5_;have NB426_432:=n6_;have NB432_426:=n7_;clear n0_ n1_ n2_ n3_ n4_ n5_ n6_ n7_;clear hb hbox hg;have hnb135:=NB432_426.out;have hnc135:=NB426_432.out;have hcz136_0:w134.cell? ⟨gb432,0,none⟩ = some (.int .i64 0):=(blk_cell BK432.out 0).trans rfl;have hcz136_1:w134.cell? ⟨gb432,1,none⟩ = some (.int .i64 0):=(blk_cell BK432.out 1).trans rfl;have hcz136_2:w134.cell? ⟨gb432,2,none⟩ = some (.int .i64 0):=(blk_cell BK432.out 2).trans rfl;have hcz136_3:w134.cell? ⟨gb432,3,none⟩ = some (.int .i64 0):=(blk_cell BK432.out 3).trans rfl;have hfz136_0:=blk_frozen BK432.out 0;have hfz136_1:=blk_frozen BK432.out 1;have hfz136_2:=blk_frozen BK432.out 2;have hfz136_3:=blk_frozen BK432.out 3;have hcz137_0:w134.cell? ⟨gb426,0,none⟩ = some (.int .i64 t421):=(blk_cell BK426.out 0).trans rfl;have hcz137_1:w134.cell? ⟨gb426,1,none⟩ = some (.int .i64 t422):=(blk_cell BK426.out 1).trans rfl;have hcz137_2:w134.cell? ⟨gb426,2,none⟩ = some (.int .i64 t423):=(blk_cell BK426.out 2).trans rfl;have hcz137_3:w134.cell? ⟨gb426,3,none⟩ = some (.int .i64 t424):=(blk_cell BK426.out 3).trans rfl;have hfz137_0:=blk_frozen BK426.out 0;have hfz137_1:=blk_frozen BK426.out 1;have hfz137_2:=blk_frozen BK426.out 2;have hfz137_3:=blk_frozen BK426.out 3) | (go_at_call 22;(with_reducible refine (numnahlaw01_awake.calls  t434 _ A128.out).mono ?_);rintro e w138 ⟨rfl,hb⟩;have n0_:=Aside0.mk (Kd.R_below (by (with_reducible repeat (first | apply Kd.R_alloc | apply Kd.R_drewN | apply Kd.R_drew));exact (Kd.R_mono (Kd.R_far (p:=⟨gb432,3,none⟩) (Kd.R_far (p:=⟨gb432,2,none⟩) (Kd.R_far (p:=⟨gb432,1,none⟩) (Kd.R_far (p:=⟨gb432,0,none⟩) (Kd.R_types HO_6.out BK432.out (by decide)) (fun _ hk=>hk.2) (.int .i64 t427)) (fun _ hk=>hk.2) (.int .i64 t428)) (fun _ hk=>hk.2) (.int .i64 t429)) (fun _ hk=>hk.2) (.int .i64 t430)) (fun _ h_=>h_.1))) hb);have n1_:=Aside0.mk (blk_below (g:=gb426) (o:=.cells #[.int .i64 t421,.int .i64 t422,.int .i64 t423,.int .i64 t424] 65 (0,0)) (by (with_reducible repeat (first | refine blk_drewN ?_ _ | refine blk_drew ?_ | refine blk_alloc ?_ _));refine blk_far ?_ NB426_432.out _;(with_reducible repeat (first | refine blk_drewN ?_ _ | refine blk_drew ?_ | refine blk_alloc ?_ _));refine blk_far ?_ NB426_432.out _;(with_reducible repeat (first | refine blk_drewN ?_ _ | refine blk_drew ?_ | refine blk_alloc ?_ _));refine blk_far ?_ NB426_432.out _;(with_reducible repeat (first | refine blk_drewN ?_ _ | refine blk_drew ?_ | refine blk_alloc ?_ _));refine blk_far ?_ NB426_432.out _;(with_reducible repeat (first | refine blk_drewN ?_ _ | refine blk_drew ?_ | refine blk_alloc ?_ _));exact BK426.out) hb);have n2_:=Aside0.mk (blk_below (g:=gb432) (o:=.cells #[.int .i64 t427,.int .i64 t428,.int .i64 t429,.int .i64 t430] 65 (0,0)) (by (with_reducible repeat (first | refine blk_drewN ?_ _ | refine blk_drew ?_ | refine blk_alloc ?_ _));refine blk_put (cs:=#[.int .i64 t427,.int .i64 t428,.int .i64 t429,.int .i64 0]) ?_ 3 _ rfl;(with_reducible repeat (first | refine blk_drewN ?_ _ | refine blk_drew ?_ | refine blk_alloc ?_ _));refine blk_put (cs:=#[.int .i64 t427,.int .i64 t428,.int .i64 0,.int .i64 0]) ?_ 2 _ rfl;(with_reducible repeat (first | refine blk_drewN ?_ _ | refine blk_drew ?_ | refine blk_alloc ?_ _));refine blk_put (cs:=#[.int .i64 t427,.int .i64 0,.int .i64 0,.int .i64 0]) ?_ 1 _ rfl;(with_reducible repeat (first | refine blk_drewN ?_ _ | refine blk_drew ?_ | refine blk_alloc ?_ _));refine blk_put (cs:=#[.int .i64 0,.int .i64 0,.int .i64 0,.int .i64 0]) ?_ 0 _ rfl;(with_reducible repeat (first | refine blk_drewN ?_ _ | refine blk_drew ?_ | refine blk_alloc ?_ _));exact BK432.out) hb);have n3_:=Aside0.mk (below_step (by repeat (first | (with_reducible first | exact HB.out | apply below_alloc | apply pw_below_drewN | apply below_drew1 | refine below_set ?_ GE426.out | refine below_set ?_ GE432.out) | exact HB.out)) hb);clear HO_6;clear BK426;clear BK432;clear HB;have HO_6:=n0_;have BK426:=n1_;have BK432:=n2_;have HB:=n3_;clear n0_ n1_ n2_ n3_;(try clear hb)));try go_wp2_with (first | (go_at_call 49;(with_reducible refine (card_Measures.calls k1 t417 t421 t422 t423 t424 t425 _ A11.out).mono ?_);rintro e w129 ⟨rfl,hb⟩;have n0_:=Aside0.mk (Kd.R_below (by (with_reducible repeat (first | apply Kd.R_alloc | apply Kd.R_drewN | apply Kd.R_drew));exact HO_6.out) hb);have n1_:=Aside0.mk (below_step (by repeat (first | (with_reducible first | exact HB.out | apply below_alloc | apply pw_below_drewN | apply below_drew1) | exact HB.out)) hb);clear HO_6;clear HB;have HO_6:=n0_;have HB:=n1_;clear n0_ n1_;(try clear hb)) | ((with_reducible refine gate_dst (N:=8) rfl ?_);refine box_event ?hg (N:=8) ?hd (cs:=#[.int .i64 0,.int .i64 0,.int .i64 0,.int .i64 0]) (t:=65) ?hr ?_;(case hd=>rfl);(case hg=>rfl);(case hr=>first | (go_simp;done) | (go_simp;rfl));intro gb426 hg w130 hbox hb;have n0_:=Aside0.mk (Kd.R_below (by (with_reducible repeat (first | apply Kd.R_alloc | apply Kd.R_drewN | apply Kd.R_drew));exact HO_6.out) hb);have n1_:=Aside0.mk (below_step (by repeat (first | (with_reducible first | exact HB.out | apply below_alloc | apply pw_below_drewN | apply below_drew1) | exact HB.out)) hb);have n2_:=Aside0.mk (hbox);have n3_:=Aside0.mk ((by rw [hg];exact (below_size (by repeat (first | (with_reducible first | exact HB.out | apply below_alloc | apply pw_below_drewN | apply below_drew1) | exact HB.out))):w.heap.size ≤ gb426));have n4_:=Aside0.mk ((by rw [hg];exact (below_size (by repeat (first | (with_reducible first | exact HB.out | apply below_alloc | apply pw_below_drewN | apply below_drew1) | exact HB.out))):w.heap.size ≤ gb426));clear HO_6;clear HB;have HO_6:=n0_;have HB:=n1_;have BK426:=n2_;have GW426:=n3_;have GE426:=n4_;clear n0_ n1_ n2_ n3_ n4_;clear hb hbox hg;have hcz131_0:w130.cell? ⟨gb426,0,none⟩ = some (.int .i64 0):=(blk_cell BK426.out 0).trans rfl;have hcz131_1:w130.cell? ⟨gb426,1,none⟩ = some (.int .i64 0):=(blk_cell BK426.out 1).trans rfl;have hcz131_2:w130.cell? ⟨gb426,2,none⟩ = some (.int .i64 0):=(blk_cell BK426.out 2).trans rfl;have hcz131_3:w130.cell? ⟨gb426,3,none⟩ = some (.int .i64 0):=(blk_cell BK426.out 3).trans rfl;have hfz131_0:=blk_frozen BK426.out 0;have hfz131_1:=blk_frozen BK426.out 1;have hfz131_2:=blk_frozen BK426.out 2;have hfz131_3:=blk_frozen BK426.out 3;have hcv132:=own_string (P:=Try.prog) Try.underlying42 Try.underlying5 Try.underlying9 (Kd.own_of_R HO_6.out);have hcvB:=own_string (P:=Try.prog) Try.underlying42 Try.underlying5 Try.underlying9 (Kd.own_of_R (Kd.R_far (p:=⟨gb426,3,none⟩) (Kd.R_far (p:=⟨gb426,2,none⟩) (Kd.R_far (p:=⟨gb426,1,none⟩) (Kd.R_far (p:=⟨gb426,0,none⟩) (Kd.R_types HO_6.out BK426.out (by decide)) (fun _ hk=>hk.2) (.int .i64 t421)) (fun _ hk=>hk.2) (.int .i64 t422)) (fun _ hk=>hk.2) (.int .i64 t423)) (fun _ hk=>hk.2) (.int .i64 t424)))) | (go_at_call 49;(with_reducible refine (card_Measures.calls k1 (strOfNums x6_1) t427 t428 t429 t430 t431 _ A12.out).mono ?_);rintro e w133 ⟨rfl,hb⟩;have n0_:=Aside0.mk (Kd.R_below (by (with_reducible repeat (first | apply Kd.R_alloc | apply Kd.R_drewN | apply Kd.R_drew));exact (Kd.R_mono (Kd.R_far (p:=⟨gb426,3,none⟩) (Kd.R_far (p:=⟨gb426,2,none⟩) (Kd.R_far (p:=⟨gb426,1,none⟩) (Kd.R_far (p:=⟨gb426,0,none⟩) (Kd.R_types HO_6.out BK426.out (by decide)) (fun _ hk=>hk.2) (.int .i64 t421)) (fun _ hk=>hk.2) (.int .i64 t422)) (fun _ hk=>hk.2) (.int .i64 t423)) (fun _ hk=>hk.2) (.int .i64 t424)) (fun _ h_=>h_.1))) hb);have n1_:=Aside0.mk (blk_below (g:=gb426) (o:=.cells #[.int .i64 t421,.int .i64 t422,.int .i64 t423,.int .i64 t424] 65 (0,0)) (by (with_reducible repeat (first | refine blk_drewN ?_ _ | refine blk_drew ?_ | refine blk_alloc ?_ _));refine blk_put (cs:=#[.int .i64 t421,.int .i64 t422,.int .i64 t423,.int .i64 0]) ?_ 3 _ rfl;(with_reducible repeat (first | refine blk_drewN ?_ _ | refine blk_drew ?_ | refine blk_alloc ?_ _));refine blk_put (cs:=#[.int .i64 t421,.int .i64 t422,.int .i64 0,.int .i64 0]) ?_ 2 _ rfl;(with_reducible repeat (first | refine blk_drewN ?_ _ | refine blk_drew ?_ | refine blk_alloc ?_ _));refine blk_put (cs:=#[.int .i64 t421,.int .i64 0,.int .i64 0,.int .i64 0]) ?_ 1 _ rfl;(with_reducible repeat (first | refine blk_drewN ?_ _ | refine blk_drew ?_ | refine blk_alloc ?_ _));refine blk_put (cs:=#[.int .i64 0,.int .i64 0,.int .i64 0,.int .i64 0]) ?_ 0 _ rfl;(with_reducible repeat (first | refine blk_drewN ?_ _ | refine blk_drew ?_ | refine blk_alloc ?_ _));exact BK426.out) hb);have n2_:=Aside0.mk (below_step (by repeat (first | (with_reducible first | exact HB.out | apply below_alloc | apply pw_below_drewN | apply below_drew1 | refine below_set ?_ GE426.out) | exact HB.out)) hb);clear HO_6;clear BK426;clear HB;have HO_6:=n0_;have BK426:=n1_;have HB:=n2_;clear n0_ n1_ n2_;(try clear hb)) | ((with_reducible refine gate_dst (N:=10) rfl ?_);refine box_event ?hg (N:=10) ?hd (cs:=#[.int .i64 0,.int .i64 0,.int .i64 0,.int .i64 0]) (t:=65) ?hr ?_;(case hd=>rfl);(case hg=>rfl);(case hr=>first | (go_simp;done) | (go_simp;rfl));intro gb432 hg w134 hbox hb;have n0_:=Aside0.mk (Kd.R_below (by (with_reducible repeat (first | apply Kd.R_alloc | apply Kd.R_drewN | apply Kd.R_drew));exact HO_6.out) hb);have n1_:=Aside0.mk (blk_below (g:=gb426) (o:=.cells #[.int .i64 t421,.int .i64 t422,.int .i64 t423,.int .i64 t424] 65 (0,0)) (by (with_reducible repeat (first | refine blk_drewN ?_ _ | refine blk_drew ?_ | refine blk_alloc ?_ _));exact BK426.out) hb);have n2_:=Aside0.mk (below_step (by repeat (first | (with_reducible first | exact HB.out | apply below_alloc | apply pw_below_drewN | apply below_drew1 | refine below_set ?_ GE426.out) | exact HB.out)) hb);have n3_:=Aside0.mk (hbox);have n4_:=Aside0.mk ((by rw [hg];exact (below_size (by repeat (first | (with_reducible first | exact HB.out | apply below_alloc | apply pw_below_drewN | apply below_drew1 | refine below_set ?_ GE426.out) | exact HB.out))):w.heap.size ≤ gb432));have n5_:=Aside0.mk ((by rw [hg];exact (below_size (by repeat (first | (with_reducible first | exact HB.out | apply below_alloc | apply pw_below_drewN | apply below_drew1 | refine below_set ?_ GE426.out) | exact HB.out))):w.heap.size ≤ gb432));have n6_:=Aside0.mk ((by rw [hg];exact Nat.ne_of_lt (blk_lt (g:=gb426) (o:=.cells #[.int .i64 t421,.int .i64 t422,.int .i64 t423,.int .i64 t424] 65 (0,0)) (by (with_reducible repeat (first | refine blk_drewN ?_ _ | refine blk_drew ?_ | refine blk_alloc ?_ _));exact BK426.out)):gb426 ≠ gb432));have n7_:=Aside0.mk ((by rw [hg];exact Nat.ne_of_gt (blk_lt (g:=gb426) (o:=.cells #[.int .i64 t421,.int .i64 t422,.int .i64 t423,.int .i64 t424] 65 (0,0)) (by (with_reducible repeat (first | refine blk_drewN ?_ _ | refine blk_drew ?_ | refine blk_alloc ?_ _));exact BK426.out)):gb432 ≠ gb426));clear HO_6;clear BK426;clear HB;have HO_6:=n0_;have BK426:=n1_;have HB:=n2_;have BK432:=n3_;have GW432:=n4_;have GE432:=n5_;have NB426_432:=n6_;have NB432_426:=n7_;clear n0_ n1_ n2_ n3_ n4_ n5_ n6_ n7_;clear hb hbox hg;have hnb135:=NB432_426.out;have hnc135:=NB426_432.out;have hcz136_0:w134.cell? ⟨gb432,0,none⟩ = some (.int .i64 0):=(blk_cell BK432.out 0).trans rfl;have hcz136_1:w134.cell? ⟨gb432,1,none⟩ = some (.int .i64 0):=(blk_cell BK432.out 1).trans rfl;have hcz136_2:w134.cell? ⟨gb432,2,none⟩ = some (.int .i64 0):=(blk_cell BK432.out 2).trans rfl;have hcz136_3:w134.cell? ⟨gb432,3,none⟩ = some (.int .i64 0):=(blk_cell BK432.out 3).trans rfl;have hfz136_0:=blk_frozen BK432.out 0;have hfz136_1:=blk_frozen BK432.out 1;have hfz136_2:=blk_frozen BK432.out 2;have hfz136_3:=blk_frozen BK432.out 3;have hcz137_0:w134.cell? ⟨gb426,0,none⟩ = some (.int .i64 t421):=(blk_cell BK426.out 0).trans rfl;have hcz137_1:w134.cell? ⟨gb426,1,none⟩ = some (.int .i64 t422):=(blk_cell BK426.out 1).trans rfl;have hcz137_2:w134.cell? ⟨gb426,2,none⟩ = some (.int .i64 t423):=(blk_cell BK426.out 2).trans rfl;have hcz137_3:w134.cell? ⟨gb426,3,none⟩ = some (.int .i64 t424):=(blk_cell BK426.out 3).trans rfl;have hfz137_0:=blk_frozen BK426.out 0;have hfz137_1:=blk_frozen BK426.out 1;have hfz137_2:=blk_frozen BK426.out 2;have hfz137_3:=blk_frozen BK426.out 3) | (go_at_call 22;(with_reducible refine (numnahlaw01_awake.calls  t434 _ A128.out).mono ?_);rintro e w138 ⟨rfl,hb⟩;have n0_:=Aside0.mk (Kd.R_below (by (with_reducible repeat (first | apply Kd.R_alloc | apply Kd.R_drewN | apply Kd.R_drew));exact (Kd.R_mono (Kd.R_far (p:=⟨gb432,3,none⟩) (Kd.R_far (p:=⟨gb432,2,none⟩) (Kd.R_far (p:=⟨gb432,1,none⟩) (Kd.R_far (p:=⟨gb432,0,none⟩) (Kd.R_types HO_6.out BK432.out (by decide)) (fun _ hk=>hk.2) (.int .i64 t427)) (fun _ hk=>hk.2) (.int .i64 t428)) (fun _ hk=>hk.2) (.int .i64 t429)) (fun _ hk=>hk.2) (.int .i64 t430)) (fun _ h_=>h_.1))) hb);have n1_:=Aside0.mk (blk_below (g:=gb426) (o:=.cells #[.int .i64 t421,.int .i64 t422,.int .i64 t423,.int .i64 t424] 65 (0,0)) (by (with_reducible repeat (first | refine blk_drewN ?_ _ | refine blk_drew ?_ | refine blk_alloc ?_ _));refine blk_far ?_ NB426_432.out _;(with_reducible repeat (first | refine blk_drewN ?_ _ | refine blk_drew ?_ | refine blk_alloc ?_ _));refine blk_far ?_ NB426_432.out _;(with_reducible repeat (first | refine blk_drewN ?_ _ | refine blk_drew ?_ | refine blk_alloc ?_ _));refine blk_far ?_ NB426_432.out _;(with_reducible repeat (first | refine blk_drewN ?_ _ | refine blk_drew ?_ | refine blk_alloc ?_ _));refine blk_far ?_ NB426_432.out _;(with_reducible repeat (first | refine blk_drewN ?_ _ | refine blk_drew ?_ | refine blk_alloc ?_ _));exact BK426.out) hb);have n2_:=Aside0.mk (blk_below (g:=gb432) (o:=.cells #[.int .i64 t427,.int .i64 t428,.int .i64 t429,.int .i64 t430] 65 (0,0)) (by (with_reducible repeat (first | refine blk_drewN ?_ _ | refine blk_drew ?_ | refine blk_alloc ?_ _));refine blk_put (cs:=#[.int .i64 t427,.int .i64 t428,.int .i64 t429,.int .i64 0]) ?_ 3 _ rfl;(with_reducible repeat (first | refine blk_drewN ?_ _ | refine blk_drew ?_ | refine blk_alloc ?_ _));refine blk_put (cs:=#[.int .i64 t427,.int .i64 t428,.int .i64 0,.int .i64 0]) ?_ 2 _ rfl;(with_reducible repeat (first | refine blk_drewN ?_ _ | refine blk_drew ?_ | refine blk_alloc ?_ _));refine blk_put (cs:=#[.int .i64 t427,.int .i64 0,.int .i64 0,.int .i64 0]) ?_ 1 _ rfl;(with_reducible repeat (first | refine blk_drewN ?_ _ | refine blk_drew ?_ | refine blk_alloc ?_ _));refine blk_put (cs:=#[.int .i64 0,.int .i64 0,.int .i64 0,.int .i64 0]) ?_ 0 _ rfl;(with_reducible repeat (first | refine blk_drewN ?_ _ | refine blk_drew ?_ | refine blk_alloc ?_ _));exact BK432.out) hb);have n3_:=Aside0.mk (below_step (by repeat (first | (with_reducible first | exact HB.out | apply below_alloc | apply pw_below_drewN | apply below_drew1 | refine below_set ?_ GE426.out | refine below_set ?_ GE432.out) | exact HB.out)) hb);clear HO_6;clear BK426;clear BK432;clear HB;have HO_6:=n0_;have BK426:=n1_;have BK432:=n2_;have HB:=n3_;clear n0_ n1_ n2_ n3_;(try clear hb))))
   go_ret
   exact ⟨by first | rfl | (simp [errW_none,errW_some] <;> rfl) | (simp only [← hji45,← hji47];first | rfl | (simp [errW_none,errW_some] <;> rfl)) | (simp [*,errW_none,errW_some] <;> rfl),by repeat (first | (with_reducible first | exact HB.out | apply below_alloc | apply pw_below_drewN | apply below_drew1 | refine below_set ?_ GE426.out | refine below_set ?_ GE432.out) | exact HB.out)⟩
def numnahlaw01_CardMeasured.Pure:Prop:=∀ (a0:Int) (a1:ByteArray),(Lit.int .i64 a0).wf = true → a1.size ≤ 140737488351232 → ∃ k,numnahlaw01_CardMeasured.f k a0 a1 = some true
theorem numnahlaw01_CardMeasured.walk (P:numnahlaw01_CardMeasured.Pure) (a0:Int) (a1:ByteArray) (w:World) (w0:(Lit.int .i64 a0).wf = true) (w1:a1.size ≤ 140737488351232) :
  Calls Try.prog 12 #[.int .i64 a0,.string a1] w fun e w'=>e = .returned (.bool true) ∧ Below w.heap.size w w':=by
 obtain ⟨k,h⟩:=P a0 a1 w0 w1
 refine (numnahlaw01_CardMeasured.calls k a0 a1 true w h rfl).mono ?_
 rintro e w' ⟨rfl,hd⟩
 exact ⟨rfl,hd⟩
end Go.Proofs.Ythpahlkhiknofaa.G
set_option linter.unusedSectionVars false
namespace Go.Proofs.Ythpahlkhiknofaa.P
open Go Go.RowKit Go.Proofs.Ythpahlkhiknofaa.M Go.Proofs.Ythpahlkhiknofaa.G
open Go.Proofs.YthpahlkhiknofaaW.PrintWords Go.Proofs.YthpahlkhiknofaaW.PrintMore
def pbN (a:Nat):Nat → Nat
 | 0=>0
 | i + 1=>if a.testBit i = true then pbN a i + 1 else pbN a i
theorem pb_five:∀ a:Fin 32,pbN a.val 5 = popN a.val:=by decide +kernel
theorem pb_mono (a:Nat):∀ {i j:Nat},i ≤ j → pbN a i ≤ pbN a j:=by
 intro i j
 induction j with
 | zero=>intro h;rw [show i = 0 by omega];exact Nat.le_refl _
 | succ j ih =>
  intro h
  rcases Nat.lt_or_eq_of_le h with h | h
  ·have:=ih (by omega)
   rw [pbN];split <;> omega
  ·rw [h];exact Nat.le_refl _
theorem pop_lt:∀ (n:Fin 6) (p:Fin 32),p.val < 2 ^ n.val → popN p.val ≤ n.val:=by decide +kernel
theorem pop_zero:∀ p:Fin 32,popN p.val = 0 → p.val = 0:=by decide +kernel
theorem ones_at:∀ (n:Fin 6) (p:Fin 32),sB n.val (fun _=>true) p.val = (p.val % 2 ^ n.val == 0):=by decide +kernel
theorem nones_at (i:Nat):∀ p,sB i (fun _=>false) p = false:=by
 induction i with
 | zero=>intro p;rfl
 | succ i ih =>
  intro p
  show (sB i _ p ^^ (p.testBit i && sB i _ (andNot p (2 ^ i)))) = false
  rw [ih,ih,Bool.and_false];rfl
theorem drop_bit:∀ p:Fin 32,p.val ≠ 0 → ∃ i:Fin 5,p.val ^^^ 2 ^ i.val < p.val ∧ 2 ^ i.val ≤ p.val:=by decide +kernel
theorem andNot_zero (q:Nat):andNot 0 q = 0:=Nat.eq_of_testBit_eq fun k=>by rw [testBit_andNot];simp
theorem mx_le {a b z:Int} (h1:a ≤ z) (h2:b ≤ z):mx a b ≤ z:=by unfold mx;split <;> omega
theorem mx_two {a b x y:Int} (h1:a ≤ x) (h2:b ≤ y):mx a b ≤ mx x y:=by unfold mx;split <;> split <;> omega
theorem mx_nil {a b:Int} (h1:0 ≤ a) (h2:0 ≤ b):mx a b = 0 ↔ a = 0 ∧ b = 0:=by unfold mx;split <;> omega
theorem mx_pos {a b:Int} (h1:0 ≤ a):0 ≤ mx a b:=by unfold mx;split <;> omega
theorem sen_pos (c:ByteArray) (n:Nat):∀ k,0 ≤ senI c n k
 | 0=>Int.le_refl 0
 | k + 1=>mx_pos (sen_pos c n k)
theorem cer_pos (c:ByteArray) (n:Nat):∀ k,0 ≤ cerI c n k
 | 0=>Int.le_refl 0
 | k + 1=>mx_pos (cer_pos c n k)
theorem deg_pos (c:ByteArray) (n:Nat):∀ k,0 ≤ degI c n k
 | 0=>Int.le_refl 0
 | k + 1=>by
  rw [degI];split
  ·exact mx_pos (deg_pos c n k)
  ·exact deg_pos c n k
theorem sen_nil (c:ByteArray) (n:Nat):∀ k,senI c n k = 0 ↔ ∀ p,p < k → senN c p n = 0
 | 0=>⟨fun _ p hp=>by omega,fun _=>rfl⟩
 | k + 1=>by
  rw [senI,mx_nil (sen_pos c n k) (by omega),sen_nil c n k]
  constructor
  ·intro ⟨h1,h2⟩ p hp
   rcases Nat.lt_or_eq_of_le (Nat.le_of_lt_succ hp) with h | h
   ·exact h1 p h
   ·rw [h];omega
  ·intro h
   have:=h k (by omega)
   exact ⟨fun p hp=>h p (by omega),by omega⟩
theorem cer_nil (c:ByteArray) (n:Nat):∀ k,(∀ p,p < k → cerN c n p c.size = 0) → cerI c n k = 0
 | 0,_=>rfl
 | k + 1,h=>by
  have:=h k (by omega)
  rw [cerI,mx_nil (cer_pos c n k) (by omega)]
  exact ⟨cer_nil c n k fun p hp=>h p (by omega),by omega⟩
theorem deg_nil (c:ByteArray) (n:Nat):∀ k,degI c n k = 0 ↔ ∀ p,p < k → sumA c n p = true → popN p = 0
 | 0=>⟨fun _ p hp=>by omega,fun _=>rfl⟩
 | k + 1=>by
  rw [degI]
  by_cases hk:sumA c n k = true
  ·rw [if_pos hk,mx_nil (deg_pos c n k) (by omega),deg_nil c n k]
   constructor
   ·intro ⟨h1,h2⟩ p hp
    rcases Nat.lt_or_eq_of_le (Nat.le_of_lt_succ hp) with h | h
    ·exact h1 p h
    ·rw [h];intro _;omega
   ·intro h
    have:=h k (by omega) hk
    exact ⟨fun p hp=>h p (by omega),by omega⟩
  ·rw [if_neg hk,deg_nil c n k]
   constructor
   ·intro h1 p hp
    rcases Nat.lt_or_eq_of_le (Nat.le_of_lt_succ hp) with h | h
    ·exact h1 p h
    ·rw [h];intro h2;exact absurd h2 hk
   ·intro h p hp
    exact h p (by omega)
theorem sen_cer (c:ByteArray) (n:Nat):∀ k,(∀ p,p < k → senN c p n ≤ cerN c n p c.size) → senI c n k ≤ cerI c n k
 | 0,_=>Int.le_refl 0
 | k + 1,h=>by
  have:=h k (by omega)
  rw [senI,cerI]
  exact mx_two (sen_cer c n k fun p hp=>h p (by omega)) (by omega)
theorem cer_le (c:ByteArray) (n:Nat):∀ k,cerI c n k ≤ (n:Int)
 | 0=>by show (0:Int) ≤ n;omega
 | k + 1=>by
  have:=cerN_le c n k c.size
  rw [cerI]
  exact mx_le (cer_le c n k) (by omega)
theorem cerN_down (c:ByteArray) (n p:Nat):∀ {j k:Nat},j ≤ k → cerN c n p k ≤ cerN c n p j:=by
 intro j k
 induction k with
 | zero=>intro h;rw [show j = 0 by omega];exact Nat.le_refl _
 | succ k ih =>
  intro h
  rcases Nat.lt_or_eq_of_le h with h | h
  ·have:=ih (by omega)
   rw [cerN];split <;> omega
  ·rw [h];exact Nat.le_refl _
theorem cerN_form (c:ByteArray) (n p:Nat):∀ k,cerN c n p k = n ∨ ∃ a,a < k ∧ cerN c n p k = popN a ∧ dcdB c p a c.size 0 = true
 | 0=>.inl rfl
 | k + 1=>by
  rw [cerN]
  split
  ·rename_i h
   exact .inr ⟨k,by omega,rfl,h.2⟩
  ·rcases cerN_form c n p k with h | ⟨a,h1,h2,h3⟩
   ·exact .inl h
   ·exact .inr ⟨a,by omega,h2,h3⟩
def Same (c:ByteArray):Prop:=∃ v,∀ p,p < c.size → vB c p = v
theorem cnt_all (c:ByteArray) (v:Bool):∀ k,(∀ p,p < k → vB c p = v) → cntN c k = if v = true then k else 0
 | 0,_=>by cases v <;> rfl
 | k + 1,h=>by
  rw [cntN_succ,cnt_all c v k fun p hp=>h p (by omega),h k (by omega)]
  cases v <;> rfl
theorem cnt_none (c:ByteArray):∀ k,cntN c k = 0 → ∀ p,p < k → vB c p = false
 | 0,_,p,hp=>by omega
 | k + 1,h,p,hp=>by
  rw [cntN_succ] at h
  split at h
  ·omega
  ·rename_i hv
   rcases Nat.lt_or_eq_of_le (Nat.le_of_lt_succ hp) with h2 | h2
   ·exact cnt_none c k h p h2
   ·rw [h2];simpa using hv
theorem cnt_full (c:ByteArray):∀ k,cntN c k = k → ∀ p,p < k → vB c p = true
 | 0,_,p,hp=>by omega
 | k + 1,h,p,hp=>by
  have hl:=cntN_le c k
  rw [cntN_succ] at h
  split at h
  ·rename_i hv
   rcases Nat.lt_or_eq_of_le (Nat.le_of_lt_succ hp) with h2 | h2
   ·exact cnt_full c k (by omega) p h2
   ·rw [h2];exact hv
  ·omega
theorem same_cnt (c:ByteArray):Same c ↔ (cntN c c.size = 0 ∨ cntN c c.size = c.size):=by
 constructor
 ·intro ⟨v,hv⟩
  rw [cnt_all c v c.size hv]
  cases v
  ·exact .inl rfl
  ·exact .inr rfl
 ·intro h
  rcases h with h | h
  ·exact ⟨false,cnt_none c _ h⟩
  ·exact ⟨true,cnt_full c _ h⟩
section
variable {c:ByteArray} {n:Nat} (hT:Tot c n)
include hT
theorem bt_v {p:Nat} (hp:p < c.size):bt c (p:Int) = dig (vB c p):=by
 rcases hT.val p hp with h | h
 ·have:vB c p = false:=decide_eq_false (by omega)
  rw [this,h];rfl
 ·have:vB c p = true:=decide_eq_true h
  rw [this,h];rfl
theorem bt_eq {p q:Nat} (hp:p < c.size) (hq:q < c.size):(bt c (p:Int) = bt c (q:Int)) ↔ vB c p = vB c q:=by
 rw [bt_v hT hp,bt_v hT hq]
 cases vB c p <;> cases vB c q <;> decide
theorem in32 {p:Nat} (hp:p < c.size):p < 32:=by have:=hT.le;omega
theorem xin {p i:Nat} (hp:p < c.size) (hi:i < n):p ^^^ 2 ^ i < c.size:=by
 rw [hT.size] at hp ⊢
 exact Nat.xor_lt_two_pow hp (Nat.pow_lt_pow_right (by decide) hi)
theorem sen_pb {p a:Nat} (hp:p < c.size) (hd:dcdB c p a c.size 0 = true):∀ i,i ≤ n → senN c p i ≤ pbN a i
 | 0,_=>Nat.le_refl _
 | i + 1,hi=>by
  have ih:=sen_pb hp hd i (by omega)
  have hx:=xin hT hp (show i < n by omega)
  rw [senN,pbN]
  by_cases ha:a.testBit i = true
  ·rw [if_pos ha];split <;> omega
  ·have ha':a.testBit i = false:=by simpa using ha
   have:=(allF_iff _ _ _).1 hd (p ^^^ 2 ^ i) (by omega) (by omega)
   have hz:(p ^^^ (p ^^^ 2 ^ i)) &&& a = 0:=Nat.eq_of_testBit_eq fun k=>by
    rw [Nat.testBit_and,Nat.testBit_xor,Nat.testBit_xor,Nat.zero_testBit]
    by_cases hk:i = k
    ·rw [← hk,ha',Bool.and_false]
    ·rw [Nat.testBit_two_pow_of_ne hk]
     cases p.testBit k <;> simp
   rw [hz] at this
   simp only [beq_self_eq_true,Bool.not_true,Bool.false_or,decide_eq_true_eq] at this
   rw [if_neg ha,if_pos this.symm]
   exact ih
theorem sen_le_cer {p:Nat} (hp:p < c.size):senN c p n ≤ cerN c n p c.size:=by
 have hle:=hT.le
 rcases cerN_form c n p c.size with h | ⟨a,h1,h2,h3⟩
 ·rw [h];exact senN_le c p n
 ·have:=sen_pb hT hp h3 n (Nat.le_refl _)
  have h5:=pb_mono a hT.n5
  have:=pb_five ⟨a,by omega⟩
  simp only at this
  omega
theorem deg_le:∀ k,k ≤ c.size → degI c n k ≤ (n:Int)
 | 0,_=>by show (0:Int) ≤ n;omega
 | k + 1,h=>by
  have ih:=deg_le k (by omega)
  have hle:=hT.le
  have h5:=hT.n5
  have:=pop_lt ⟨n,by omega⟩ ⟨k,by omega⟩ (by show k < 2 ^ n;rw [← hT.size];omega)
  simp only at this
  rw [degI];split
  ·exact mx_le ih (by omega)
  ·exact ih
theorem same_of_flip (h:∀ p,p < c.size → ∀ i,i < n → vB c p = vB c (p ^^^ 2 ^ i)):∀ p,p < c.size → vB c p = vB c 0:=by
 intro p
 induction p using Nat.strongRecOn with
 | ind p ih =>
  intro hp
  by_cases h0:p = 0
  ·rw [h0]
  ·obtain ⟨i,h1,h2⟩:=drop_bit ⟨p,in32 hT hp⟩ h0
   simp only at h1 h2
   have hin:i.val < n:=(Nat.pow_lt_pow_iff_right (a:=2) (by decide)).1 (by rw [← hT.size];omega)
   rw [h p hp i.val hin]
   exact ih _ h1 (by omega)
theorem senN_nil {p:Nat} (hp:p < c.size):∀ i,i ≤ n → (senN c p i = 0 ↔ ∀ j,j < i → vB c p = vB c (p ^^^ 2 ^ j))
 | 0,_=>⟨fun _ j hj=>by omega,fun _=>rfl⟩
 | i + 1,hi=>by
  have ih:=senN_nil hp i (by omega)
  have hb:=bt_eq hT hp (xin hT hp (show i < n by omega))
  rw [senN]
  by_cases h:bt c (p:Int) = bt c ((p ^^^ 2 ^ i:Nat):Int)
  ·rw [if_pos h,ih]
   constructor
   ·intro h1 j hj
    rcases Nat.lt_or_eq_of_le (Nat.le_of_lt_succ hj) with h2 | h2
    ·exact h1 j h2
    ·rw [h2];exact hb.1 h
   ·intro h1 j hj
    exact h1 j (by omega)
  ·rw [if_neg h]
   constructor
   ·intro h1;omega
   ·intro h1
    exact absurd (hb.2 (h1 i (by omega))) h
theorem same_sen:Same c ↔ senI c n c.size = 0:=by
 rw [sen_nil]
 constructor
 ·intro ⟨v,hv⟩ p hp
  refine (senN_nil hT hp n (Nat.le_refl _)).2 fun j hj=>?_
  rw [hv p hp,hv _ (xin hT hp hj)]
 ·intro h
  exact ⟨vB c 0,same_of_flip hT fun p hp=>(senN_nil hT hp n (Nat.le_refl _)).1 (h p hp)⟩
theorem same_cer:Same c ↔ cerI c n c.size = 0:=by
 have h1:1 ≤ c.size:=by rw [hT.size];exact Nat.one_le_two_pow
 constructor
 ·intro ⟨v,hv⟩
  refine cer_nil c n c.size fun p hp=>?_
  have hd:=cerN_down c n p h1
  have hz:cerN c n p 1 = 0:=by
   have hn:=hT.n1
   rw [cerN,if_pos]
   ·rfl
   ·refine ⟨?_,(allF_iff _ _ _).2 fun q _ hq=>?_⟩
    ·show 0 < n;omega
    ·rw [decide_eq_true ((bt_eq hT (by omega) hp).2 (by rw [hv p hp,hv q (by omega)])),Bool.or_true]
  omega
 ·intro h
  refine (same_sen hT).2 ?_
  have h2:=sen_cer c n c.size fun p hp=>sen_le_cer hT hp
  have:=sen_pos c n c.size
  omega
theorem same_deg:Same c ↔ degI c n c.size = 0:=by
 have hle:=hT.le
 have h5:=hT.n5
 have h1:1 ≤ c.size:=by rw [hT.size];exact Nat.one_le_two_pow
 rw [deg_nil]
 constructor
 ·intro ⟨v,hv⟩ p hp hs
  rw [sumA_sB,sB_congr (N:=c.size) (h:=fun _=>v) hv n p hp] at hs
  cases v
  ·rw [nones_at] at hs;cases hs
  ·have:=ones_at ⟨n,by omega⟩ ⟨p,by omega⟩
   simp only at this
   rw [this,beq_iff_eq,Nat.mod_eq_of_lt (by rw [← hT.size];exact hp)] at hs
   rw [hs];rfl
 ·intro h
  refine ⟨sumA c n 0,fun p hp=>?_⟩
  have e:vB c p = sB n (sB n (vB c)) p:=by rw [sB_twice]
  have hg:∀ q,q < c.size → sB n (vB c) q = (sumA c n 0 && (q == 0)):=fun q hq=>by
   rw [← sumA_sB]
   by_cases h0:q = 0
   ·rw [h0];simp
   ·rw [beq_false_of_ne h0,Bool.and_false]
    cases hs:sumA c n q
    ·rfl
    ·exact absurd (pop_zero ⟨q,by omega⟩ (h q hq hs)) h0
  rw [e,sB_congr hg n p hp]
  cases sumA c n 0
  ·simp only [Bool.false_and]
   exact nones_at n p
  ·simp only [Bool.true_and]
   rw [sB_par (N:=c.size) (by omega) _ n h5 p hp,par_one (p:=0) (by omega) fun r _ hne=>by rw [beq_false_of_ne hne,Bool.and_false],tB_top (by rw [← hT.size];omega) (by rw [← hT.size];exact hp),andNot_zero]
   rfl
variable {o:ByteArray} (hO:Tot o n) (hv:∀ r,r < c.size → vB o r = !vB c r)
include hO hv
theorem so_size:o.size = c.size:=by rw [hO.size,hT.size]
theorem not_bt {p q:Nat} (hp:p < c.size) (hq:q < c.size):(bt o (p:Int) = bt o (q:Int)) ↔ (bt c (p:Int) = bt c (q:Int)):=by
 have hs:=so_size hT hO hv
 rw [bt_eq hT hp hq,bt_eq hO (by omega) (by omega),hv p hp,hv q hq]
 cases vB c p <;> cases vB c q <;> decide
theorem not_senN {p:Nat} (hp:p < c.size):∀ i,i ≤ n → senN o p i = senN c p i
 | 0,_=>rfl
 | i + 1,hi=>by
  have hb:=not_bt hT hO hv hp (xin hT hp (show i < n by omega))
  rw [senN,senN,not_senN hp i (by omega)]
  by_cases h:bt c (p:Int) = bt c ((p ^^^ 2 ^ i:Nat):Int)
  ·rw [if_pos h,if_pos (hb.2 h)]
  ·rw [if_neg h,if_neg (fun h2=>h (hb.1 h2))]
theorem not_sen:∀ k,k ≤ c.size → senI o n k = senI c n k
 | 0,_=>rfl
 | k + 1,h=>by rw [senI,senI,not_sen k (by omega),not_senN hT hO hv (by omega) n (Nat.le_refl _)]
theorem not_dcd {p a:Nat} (hp:p < c.size):dcdB o p a c.size 0 = dcdB c p a c.size 0:=allF_congr fun q _ hq=>by
 rw [decide_eq_decide.2 (not_bt hT hO hv (by omega) hp)]
theorem not_cerN {p:Nat} (hp:p < c.size):∀ k,cerN o n p k = cerN c n p k
 | 0=>rfl
 | k + 1=>by rw [cerN,cerN,not_cerN hp k,so_size hT hO hv,not_dcd hT hO hv hp]
theorem not_cer:∀ k,k ≤ c.size → cerI o n k = cerI c n k
 | 0,_=>rfl
 | k + 1,h=>by rw [cerI,cerI,not_cer k (by omega),so_size hT hO hv,not_cerN hT hO hv (by omega)]
theorem not_sum {p:Nat} (hp:p < c.size) (h0:p ≠ 0):sumA o n p = sumA c n p:=by
 have hle:=hT.le
 have h5:=hT.n5
 have:=ones_at ⟨n,by omega⟩ ⟨p,by omega⟩
 simp only at this
 rw [sumA_sB,sumA_sB,sB_congr (N:=c.size) (h:=fun q=>vB c q ^^ true) (fun q hq=>by rw [hv q hq];cases vB c q <;> rfl) n p hp,sB_xor,this,Nat.mod_eq_of_lt (by rw [← hT.size];exact hp),beq_false_of_ne h0,Bool.xor_false]
theorem not_deg:∀ k,k ≤ c.size → degI o n k = degI c n k
 | 0,_=>rfl
 | 1,_=>by
  have e:mx (degI c n 0) (popN 0:Int) = degI c n 0:=rfl
  rw [degI,degI]
  show (if _ then mx (degI c n 0) (popN 0:Int) else degI c n 0) = (if _ then mx (degI c n 0) (popN 0:Int) else degI c n 0)
  rw [e];split <;> split <;> rfl
 | k + 2,h=>by
  have ih:=not_deg (k + 1) (by omega)
  show (if sumA o n (k + 1) = true then mx (degI o n (k + 1)) (popN (k + 1):Int) else degI o n (k + 1)) = (if sumA c n (k + 1) = true then mx (degI c n (k + 1)) (popN (k + 1):Int) else degI c n (k + 1))
  rw [ih,not_sum hT hO hv (by omega) (by omega)]
theorem not_cnt:∀ k,k ≤ c.size → cntN c k + cntN o k = k
 | 0,_=>rfl
 | k + 1,h=>by
  have ih:=not_cnt k (by omega)
  rw [cntN_succ,cntN_succ,hv k (by omega)]
  cases vB c k
  ·rw [if_neg (by decide),if_pos (by decide)];omega
  ·rw [if_pos rfl,if_neg (by decide)];omega
end
def turnI (c:ByteArray) (q:Nat):Int:=dig (!vB c q)
section
variable {c:ByteArray} {n:Nat} (hT:Tot c n)
include hT
theorem measured_end (hc:c.size ≤ 40) (htc:totB c = true) (hfn:fnN c = n) {o:ByteArray} (hO:Tot o n) (ho:o.size ≤ 40) (hto:totB o = true) (hfo:fnN o = n) (hv:∀ r,r < c.size → vB o r = !vB c r) {x:List Int} (hx:strOfNums x = o) {q:Nat} (hq:c.size ≤ q):Ev (fun k=>numnahlaw01_CardMeasured.l0 k (n:Int) c x (q:Int)) true:=by
 have hle:=hT.le
 have h5:=hT.n5
 have hs:=so_size hT hO hv
 have e1:=ev_Measures hc htc
 have e2:=ev_Measures ho hto
 rw [hfn] at e1
 rw [hfo,hs,not_sen hT hO hv _ (Nat.le_refl _),not_cer hT hO hv _ (Nat.le_refl _),not_deg hT hO hv _ (Nat.le_refl _)] at e2
 have hcnt:=not_cnt hT hO hv c.size (Nat.le_refl _)
 have sc:=sen_cer c n c.size fun p hp=>sen_le_cer hT hp
 have cl:=cer_le c n c.size
 have dl:=deg_le hT c.size (Nat.le_refl _)
 have hss:=same_sen hT
 have hsc:=same_cer hT
 have hsd:=same_deg hT
 have hsn:=same_cnt c
 have h1:1 ≤ c.size:=by rw [hT.size];exact Nat.one_le_two_pow
 refine Ev.step (fun k=>by rw [numnahlaw01_CardMeasured.l0,if_neg (by omega),hx]) (Ev.bind e1 (Ev.bind e2 ?_))
 rw [shl_one (by omega),← hT.size]
 refine Ev.congr (fun k=>if_pos rfl) (Ev.congr (fun k=>if_pos rfl) (Ev.congr (fun k=>if_neg (by show ¬ senI c n c.size > cerI c n c.size;omega)) (Ev.congr (fun k=>if_neg (by show ¬ cerI c n c.size > n;omega)) (Ev.congr (fun k=>if_neg (by show ¬ degI c n c.size > n;omega)) (Ev.congr (fun k=>if_pos (by omega)) (Ev.congr (fun k=>if_pos (by show wrap64 ((cntN c c.size:Int) + (cntN o c.size:Int)) = _;rw [wrap_id (by omega) (by omega)];omega)) ?_))))))
 by_cases hz:cntN c c.size = 0
 ·have hsm:Same c:=hsn.2 (.inl hz)
  have z1:=hss.1 hsm
  have z2:=hsc.1 hsm
  have z3:=hsd.1 hsm
  refine Ev.congr (fun k=>if_pos (by show (cntN c c.size:Int) = 0;omega)) (Ev.congr (fun k=>if_pos rfl) (Ev.congr (fun k=>if_pos rfl) (Ev.congr (fun k=>if_pos rfl) (Ev.congr (fun k=>if_pos ?_) (Ev.congr (fun k=>if_pos ?_) (Ev.congr (fun k=>if_pos ?_) ev_aw))))))
  ·show (true == (senI c n c.size == 0)) = true
   rw [z1];rfl
  ·show (true == (cerI c n c.size == 0)) = true
   rw [z2];rfl
  ·show (true == (degI c n c.size == 0)) = true
   rw [z3];rfl
 ·have key:∀ x:Int,(Same c ↔ x = 0) → (((cntN c c.size:Int) == (c.size:Int)) == (x == 0)) = true:=fun x hx2=>by
   by_cases hf:cntN c c.size = c.size
   ·have:=hx2.1 (hsn.2 (.inr hf))
    rw [hf,this];simp
   ·have:¬ x = 0:=fun h=>by
     rcases hsn.1 (hx2.2 h) with h | h
     ·exact hz h
     ·exact hf h
    rw [beq_false_of_ne this,beq_false_of_ne (show (cntN c c.size:Int) ≠ (c.size:Int) by omega)];rfl
  exact Ev.congr (fun k=>if_neg (by show ¬ (cntN c c.size:Int) = 0;omega)) (Ev.congr (fun k=>if_pos rfl) (Ev.congr (fun k=>if_pos rfl) (Ev.congr (fun k=>if_pos rfl) (Ev.congr (fun k=>if_pos (key _ hss)) (Ev.congr (fun k=>if_pos (key _ hsc)) (Ev.congr (fun k=>if_pos (key _ hsd)) ev_aw))))))
theorem measured_l0 (hend:Ev (fun k=>numnahlaw01_CardMeasured.l0 k (n:Int) c (tabI c.size (turnI c)) (c.size:Int)) true):∀ d q,q + d = c.size → Ev (fun k=>numnahlaw01_CardMeasured.l0 k (n:Int) c (tabI q (turnI c)) (q:Int)) true:=by
 have hle:=hT.le
 intro d
 induction d with
 | zero =>
  intro q hq
  obtain rfl:q = c.size:=by omega
  exact hend
 | succ d ih =>
  intro q hq
  have hb:=bt_v hT (show q < c.size by omega)
  have e:(97 - bt c (q:Int)) % 256 = turnI c q:=by
   rw [hb];unfold turnI
   cases vB c q <;> decide
  have e2:tabI (q + 1) (turnI c) = tabI q (turnI c) ++ [turnI c q]:=by simp [tabI,List.range_succ]
  have hnx:=ih (q + 1) (by omega)
  rw [e2] at hnx
  refine Ev.step (fun k=>?_) hnx
  rw [numnahlaw01_CardMeasured.l0,if_pos (by omega),if_pos (by omega),if_pos (by rw [tabI_len];omega),e,wrap_succ (by omega)]
end
theorem measured_pure (a0:Int) (a1:ByteArray) (h1:a1.size ≤ 140737488351232):∃ k,numnahlaw01_CardMeasured.f k a0 a1 = some true:=by
 refine Ev.rounds ?_
 unfold numnahlaw01_CardMeasured.f
 obtain ⟨m,m0,m5,em⟩:=mod_some a0 (n:=5) (by decide) (by decide)
 obtain ⟨n,rfl⟩:∃ k:Nat,m = (k:Int):=⟨m.toNat,by omega⟩
 rw [em]
 have hw:wrap64 (1 + (n:Int)) = ((n + 1:Nat):Int):=by rw [wrap_id (by omega) (by omega)];omega
 simp only [Option.bind_some,hw]
 obtain ⟨c,hc1,hc2,hc3,hc4,hev⟩:=ev_function a1 h1 (n:=n + 1) (by omega) (by omega)
 have hT:Tot c (n + 1):=by have:=tot_of hc3 hc1;rwa [hc2] at this
 refine Ev.bind hev ?_
 have hz:(strOfNums (tabI c.size (turnI c))).size = c.size:=by rw [str_size,tabI_len]
 have hb:∀ r,r < c.size → bt (strOfNums (tabI c.size (turnI c))) (r:Int) = turnI c r:=fun r hr=>by
  have hl:r < (tabI c.size (turnI c)).length:=by rw [tabI_len];exact hr
  have e:(tabI c.size (turnI c))[r] = turnI c r:=by simp [tabI]
  have hd:turnI c r = 48 ∨ turnI c r = 49:=by unfold turnI dig;cases vB c r <;> simp
  rw [str_bt hl (by rw [e];omega) (by rw [e];omega),e]
 obtain ⟨t1,t2,t3⟩:=mk_tot (c:=strOfNums (tabI c.size (turnI c))) (n:=n + 1) (by omega) (by omega) (by rw [hz,hc4]) fun r hr=>by
  rw [hz] at hr
  rw [hb r hr]
  unfold turnI dig;cases vB c r <;> simp
 have hO:Tot (strOfNums (tabI c.size (turnI c))) (n + 1):=by have:=tot_of t3 t1;rwa [t2] at this
 have hend:=measured_end hT hc3 hc1 hc2 hO t3 t1 t2 (fun r hr=>by
  show decide (bt _ (r:Int) = 49) = _
  rw [hb r hr]
  unfold turnI;cases vB c r <;> decide) rfl (Nat.le_refl c.size)
 exact measured_l0 hT hend c.size 0 (by omega)
theorem measured_Pure:numnahlaw01_CardMeasured.Pure:=fun a0 a1 _ h1=>measured_pure a0 a1 h1
end Go.Proofs.Ythpahlkhiknofaa.P
