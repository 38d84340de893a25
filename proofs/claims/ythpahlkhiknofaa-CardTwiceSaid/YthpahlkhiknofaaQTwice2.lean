/- Several texts, joined. -/
import Derived.Test.YthpahlkhiknofaaQTwice1
set_option linter.unusedVariables false
set_option linter.unusedSimpArgs false
set_option linter.unusedSectionVars false
namespace Go.Proofs.Ythpahlkhiknofaa.P
open Go Go.RowKit Go.Proofs.Ythpahlkhiknofaa.M Go.Proofs.Ythpahlkhiknofaa.G
open Go.Proofs.YthpahlkhiknofaaW.PrintWords Go.Proofs.YthpahlkhiknofaaW.PrintMore
theorem mod_some (x:Int) {n:Int} (h0:0 < n) (h1:n ≤ 9223372036854775807):∃ m,0 ≤ m ∧ m < n ∧ numnahlaw01_mod.f x n = some m:=by
  unfold numnahlaw01_mod.f
  have hn:IntKind.u64.wrap n = n:=by
    obtain ⟨k,rfl⟩:∃ k:Nat,n = (k:Int):=⟨n.toNat,by omega⟩
    exact wrap_u64_nat k (by omega)
  have hx:0 ≤ IntKind.u64.wrap x:=by
    simp only [IntKind.wrap,IntKind.bits,IntKind.signed]
    simp
    omega
  rw [hn,if_neg (by omega),Int.tmod_eq_emod_of_nonneg hx]
  have:=Int.emod_nonneg (IntKind.u64.wrap x) (show n ≠ 0 by omega)
  have:=Int.emod_lt_of_pos (IntKind.u64.wrap x) h0
  exact ⟨_,by omega,by omega,by rw [wrap_id (by omega) (by omega)]⟩
theorem bytes01:bt (⟨#[48,49,45]⟩:ByteArray) 0 = 48 ∧ bt (⟨#[48,49,45]⟩:ByteArray) 1 = 49:=by constructor <;> decide +kernel
theorem func_l0 (s:ByteArray) (hs:s.size ≤ 140737488351232) {n:Nat} (h1:1 ≤ n) (h5:n ≤ 5):∀ d i (x:List Int),i + d = 2 ^ n → x.length = i → (∀ y ∈ x,y = 48 ∨ y = 49) → ∃ z:List Int,z.length = 2 ^ n ∧ (∀ y ∈ z,y = 48 ∨ y = 49) ∧ Ev (fun k=>numnahlaw01_function.l0 k s (n:Int) 2 x (i:Int)) (strOfNums z):=by
  have h32:2 ^ n ≤ 2 ^ 5:=Nat.pow_le_pow_right (by decide) h5
  intro d
  induction d with
  | zero =>
    intro i x hi hx hv
    refine ⟨x,by omega,hv,Ev.step (f:=fun _=>some (strOfNums x)) (fun k=>?_) (Ev.now _)⟩
    rw [numnahlaw01_function.l0,if_pos (by omega),shl_one (by omega),if_neg (by omega)]
  | succ d ih =>
    intro i x hi hx hv
    have nx:∀ y:Int,(y = 48 ∨ y = 49) → ∃ z:List Int,z.length = 2 ^ n ∧ (∀ y ∈ z,y = 48 ∨ y = 49) ∧ Ev (fun k=>numnahlaw01_function.l0 k s (n:Int) 2 (x ++ [y]) ((i + 1:Nat):Int)) (strOfNums z):=fun y hy=>ih (i + 1) (x ++ [y]) (by omega) (by rw [List.length_append,hx];rfl) (fun a ha=>by
      rcases List.mem_append.1 ha with ha | ha
      · exact hv a ha
      · rw [List.mem_singleton.1 ha];exact hy)
    by_cases his:(i:Int) < (s.size:Int)
    · have hb:=bt_range s (i:Int)
      have hw:wrap64 (bt s (i:Int)) = bt s (i:Int):=wrap_id (by omega) (by omega)
      have ht:Int.tmod (bt s (i:Int)) 2 = bt s (i:Int) % 2:=Int.tmod_eq_emod_of_nonneg hb.1
      have hm:bt s (i:Int) % 2 = 0 ∨ bt s (i:Int) % 2 = 1:=by omega
      have st:∀ k,numnahlaw01_function.l0 (k + 1) s (n:Int) 2 x (i:Int) = numnahlaw01_function.l0 k s (n:Int) 2 (x ++ [bt (⟨#[48,49,45]⟩:ByteArray) (bt s (i:Int) % 2)]) ((i + 1:Nat):Int):=fun k=>by
        rw [numnahlaw01_function.l0,if_pos (by omega),shl_one (by omega),if_pos (by omega),if_pos his,if_pos (by omega),if_neg (by decide),hw,ht,if_pos (by omega),if_pos (by omega),if_pos (by omega),wrap_succ (by omega)]
      rcases hm with h | h
      · rw [h,bytes01.1] at st
        obtain ⟨z,z1,z2,z3⟩:=nx 48 (.inl rfl)
        exact ⟨z,z1,z2,Ev.step st z3⟩
      · rw [h,bytes01.2] at st
        obtain ⟨z,z1,z2,z3⟩:=nx 49 (.inr rfl)
        exact ⟨z,z1,z2,Ev.step st z3⟩
    · obtain ⟨z,z1,z2,z3⟩:=nx 48 (.inl rfl)
      refine ⟨z,z1,z2,Ev.step (fun k=>?_) z3⟩
      rw [numnahlaw01_function.l0,if_pos (by omega),shl_one (by omega),if_pos (by omega),if_neg his,if_pos (by decide),if_pos (by omega),bytes01.1,wrap_succ (by omega)]
theorem lg_pow {n:Nat} (h1:1 ≤ n) (h5:n ≤ 5):lg (2 ^ n) = n:=by
  rcases (by omega:n = 1 ∨ n = 2 ∨ n = 3 ∨ n = 4 ∨ n = 5) with rfl | rfl | rfl | rfl | rfl <;> decide
/-- A string of the right size with these two characters is a total function. -/
theorem mk_tot {c:ByteArray} {n:Nat} (h1:1 ≤ n) (h5:n ≤ 5) (hs:c.size = 2 ^ n) (hv:∀ p,p < c.size → bt c (p:Int) = 48 ∨ bt c (p:Int) = 49):totB c = true ∧ fnN c = n ∧ c.size ≤ 40:=by
  have h32:2 ^ n ≤ 2 ^ 5:=Nat.pow_le_pow_right (by decide) h5
  have ho:okC c = true:=(allF_iff _ _ _).2 fun j _ hj=>by
    unfold isC
    have:=hv j (by omega)
    exact decide_eq_true (by omega)
  have hf:fnN c = n:=by
    unfold fnN
    rw [if_pos ho,hs,lg_pow h1 h5]
  refine ⟨?_,hf,by omega⟩
  unfold totB
  rw [hf,decide_eq_true (by omega),Bool.true_and]
  exact (allF_iff _ _ _).2 fun j _ hj=>by
    have:=hv j (by omega)
    exact decide_eq_true (by omega)
theorem ev_function (s:ByteArray) (hs:s.size ≤ 140737488351232) {n:Nat} (h1:1 ≤ n) (h5:n ≤ 5):∃ c:ByteArray,totB c = true ∧ fnN c = n ∧ c.size ≤ 40 ∧ c.size = 2 ^ n ∧ Ev (fun k=>numnahlaw01_function.f k s (n:Int) 2) c:=by
  obtain ⟨z,z1,z2,z3⟩:=func_l0 s hs h1 h5 (2 ^ n) 0 [] (by omega) rfl (fun y hy=>by cases hy)
  have hsz:(strOfNums z).size = 2 ^ n:=by rw [str_size,z1]
  obtain ⟨a,b,d⟩:=mk_tot h1 h5 hsz fun p hp=>by
    have hp':p < z.length:=by rw [hsz] at hp;omega
    have:=z2 _ (List.getElem_mem hp')
    rw [str_bt hp' (by omega) (by omega)]
    exact this
  exact ⟨_,a,b,d,hsz,z3⟩
def opB (i:Nat) (g:Nat → Bool) (p:Nat):Bool:=g p ^^ (p.testBit i && g (andNot p (2 ^ i)))
def sB:Nat → (Nat → Bool) → Nat → Bool
  | 0,g=>g
  | i + 1,g=>opB i (sB i g)
theorem sumA_sB (c:ByteArray):∀ i,sumA c i = sB i (vB c)
  | 0=>funext fun p=>rfl
  | i + 1=>funext fun p=>by
    rw [sumA,sumA_sB c i]
    rfl
theorem cut_bit (p i j:Nat):(andNot p (2 ^ i)).testBit j = (p.testBit j && !decide (i = j)):=by
  rw [testBit_andNot]
  congr 1
  by_cases h:i = j
  · subst h;rw [Nat.testBit_two_pow_self,decide_eq_true rfl]
  · rw [Nat.testBit_two_pow_of_ne h,decide_eq_false h]
theorem cut_comm (p i j:Nat):andNot (andNot p (2 ^ i)) (2 ^ j) = andNot (andNot p (2 ^ j)) (2 ^ i):=Nat.eq_of_testBit_eq fun k=>by
  rw [cut_bit,cut_bit,cut_bit,cut_bit]
  cases p.testBit k <;> cases decide (i = k) <;> cases decide (j = k) <;> rfl
theorem cut_le (p i:Nat):andNot p (2 ^ i) ≤ p:=by
  have:andNot p (2 ^ i) = p &&& andNot p (2 ^ i):=Nat.eq_of_testBit_eq fun k=>by
    rw [Nat.testBit_and,cut_bit]
    cases p.testBit k <;> rfl
  rw [this]
  exact Nat.and_le_left
theorem op_twice (i:Nat) (g:Nat → Bool):opB i (opB i g) = g:=funext fun p=>by
  unfold opB
  rw [cut_bit,decide_eq_true rfl]
  cases g p <;> cases p.testBit i <;> cases g (andNot p (2 ^ i)) <;> rfl
theorem op_comm {i j:Nat} (h:i ≠ j) (g:Nat → Bool):opB i (opB j g) = opB j (opB i g):=funext fun p=>by
  unfold opB
  rw [cut_bit,cut_bit,decide_eq_false h,decide_eq_false (fun e=>h e.symm),cut_comm p j i]
  cases g p <;> cases p.testBit i <;> cases p.testBit j <;> cases g (andNot p (2 ^ i)) <;> cases g (andNot p (2 ^ j)) <;> cases g (andNot (andNot p (2 ^ i)) (2 ^ j)) <;> rfl
theorem sB_op:∀ {i j:Nat},i ≤ j → ∀ g,sB i (opB j g) = opB j (sB i g)
  | 0,_,_,_=>rfl
  | i + 1,j,h,g=>by
    rw [sB,sB_op (show i ≤ j by omega),op_comm (by omega)]
    rfl
theorem sB_twice:∀ (i:Nat) (g:Nat → Bool),sB i (sB i g) = g
  | 0,_=>rfl
  | i + 1,g=>by
    show opB i (sB i (opB i (sB i g))) = g
    rw [sB_op (Nat.le_refl i),op_twice,sB_twice i g]
theorem sB_congr {N:Nat} {g h:Nat → Bool} (he:∀ q,q < N → g q = h q):∀ i p,p < N → sB i g p = sB i h p
  | 0,p,hp=>he p hp
  | i + 1,p,hp=>by
    have:=cut_le p i
    show opB i (sB i g) p = opB i (sB i h) p
    unfold opB
    rw [sB_congr he i p hp,sB_congr he i (andNot p (2 ^ i)) (by omega)]
theorem sB_xor (g h:Nat → Bool):∀ i p,sB i (fun q=>g q ^^ h q) p = (sB i g p ^^ sB i h p)
  | 0,_=>rfl
  | i + 1,p=>by
    show opB i (sB i fun q=>g q ^^ h q) p = (opB i (sB i g) p ^^ opB i (sB i h) p)
    unfold opB
    rw [sB_xor g h i p,sB_xor g h i (andNot p (2 ^ i))]
    cases sB i g p <;> cases sB i h p <;> cases p.testBit i <;> cases sB i g (andNot p (2 ^ i)) <;> cases sB i h (andNot p (2 ^ i)) <;> rfl
theorem sB_par {N:Nat} (hN:N ≤ 32) (g:Nat → Bool):∀ i,i ≤ 5 → ∀ p,p < N → sB i g p = par (fun q=>tB i q p && g q) N:=by
  intro i
  induction i with
  | zero =>
    intro _ p hp
    rw [par_one (p:=p) hp fun q hq hne=>by rw [tB_zero ⟨q,by omega⟩ ⟨p,by omega⟩,beq_false_of_ne hne];rfl,tB_zero ⟨p,by omega⟩ ⟨p,by omega⟩]
    simp [sB]
  | succ i ih =>
    intro hi p hp
    have ha:=cut_le p i
    show opB i (sB i g) p = _
    unfold opB
    rw [ih (by omega) p hp,ih (by omega) (andNot p (2 ^ i)) (by omega)]
    have e:∀ q,q < N → (tB (i + 1) q p && g q) = ((tB i q p && g q) ^^ (p.testBit i && (tB i q (andNot p (2 ^ i)) && g q))):=fun q hq=>by
      have h:=tB_step ⟨i,by omega⟩ ⟨q,by omega⟩ ⟨p,by omega⟩
      simp only at h
      rw [h]
      cases tB i q p <;> cases p.testBit i <;> cases tB i q (andNot p (2 ^ i)) <;> cases g q <;> rfl
    rw [par_congr e,par_xor]
    congr 1
    cases p.testBit i
    · rw [Bool.false_and,par_none fun q _=>by rw [Bool.false_and]]
    · rw [Bool.true_and]
      exact par_congr fun q _=>by rw [Bool.true_and]
theorem tB_top {n q p:Nat} (hq:q < 2 ^ n) (hp:p < 2 ^ n):tB n q p = (andNot q p == 0):=by
  unfold tB
  have h1:q >>> n = 0:=by rw [Nat.shiftRight_eq_div_pow];exact Nat.div_eq_of_lt hq
  have h2:p >>> n = 0:=by rw [Nat.shiftRight_eq_div_pow];exact Nat.div_eq_of_lt hp
  rw [h1,h2];simp
section
variable {c:ByteArray} {n:Nat} (hT:Tot c n)
include hT
theorem sumS_val {p:Nat} (hp:p < c.size):bt (sumS c n) (p:Int) = dig (sumA c n p):=by
  unfold sumS
  have hl:p < (tabI c.size fun q=>dig (sumA c n q)).length:=by rw [tabI_len];exact hp
  have e:(tabI c.size fun q=>dig (sumA c n q))[p] = dig (sumA c n p):=by simp [tabI]
  rw [str_bt hl (by rw [e];unfold dig;split <;> omega) (by rw [e];unfold dig;split <;> omega),e]
theorem sumS_tot:totB (sumS c n) = true ∧ fnN (sumS c n) = n ∧ (sumS c n).size ≤ 40:=by
  refine mk_tot hT.n1 hT.n5 (by rw [sumS_size hT,hT.size]) fun p hp=>?_
  rw [sumS_size hT] at hp
  rw [sumS_val hT hp]
  unfold dig
  cases sumA c n p <;> simp
theorem vB_sum {p:Nat} (hp:p < c.size):vB (sumS c n) p = sB n (vB c) p:=by
  show decide (bt (sumS c n) (p:Int) = 49) = _
  rw [sumS_val hT hp,sumA_sB]
  cases sB n (vB c) p <;> decide
theorem sum_twice:sumS (sumS c n) n = c:=by
  have hs:=sumS_size hT
  unfold sumS
  have e:(tabI (sumS c n).size fun q=>dig (sumA (sumS c n) n q)) = bytesOf c:=by
    have hb:bytes_conv.f c = some (bytesOf c):=by
      unfold bytes_conv.f
      rw [if_pos (by have:=hT.le;omega)]
    have h2:=bytes_tab hT
    rw [hb] at h2
    rw [Option.some.inj h2,hs]
    refine tabI_congr fun q hq=>?_
    rw [sumA_sB,sB_congr (N:=c.size) (fun r hr=>vB_sum hT hr) n q hq,sB_twice]
    rfl
  show strOfNums (tabI (sumS c n).size fun q=>dig (sumA (sumS c n) n q)) = c
  rw [e]
  show strOfNums (c.data.toList.map fun b=>(b.toNat:Int)) = c
  have:(c.data.toList.map fun b=>(b.toNat:Int)).map (fun n:Int=>UInt8.ofNat n.toNat) = c.data.toList:=by
    rw [List.map_map]
    conv=>rhs;rw [← List.map_id c.data.toList]
    refine List.map_congr_left fun b _=>?_
    simp
  unfold strOfNums
  rw [this]
end
end Go.Proofs.Ythpahlkhiknofaa.P
namespace Go.Proofs.Ythpahlkhiknofaa.G
open Go.RowKit Go.Proofs.YthpahlkhiknofaaW.PrintWords Go.Proofs.YthpahlkhiknofaaW.PrintLast Go.Proofs.YthpahlkhiknofaaW.PrintMore
set_option maxHeartbeats 8000000
set_option maxRecDepth 100000
attribute [local go_sem] fld65_0 fld65_1 fld65_2 fld65_3 max2_int min2_int max_two min_two max_three min_three max_four min_four   -- for this text's walks alone
mutual
def numnahlaw01_CardTwice.j0:Nat → ByteArray → Int → ByteArray → Option (Bool)
 | 0,_,_,_=>none
 | k + 1,x7,x8,x9=>(card_Sum.f k x7).bind fun bt403=>((card_Sum.f k x9).bind fun bt405=>((card_Sum.f k bt403.1).bind fun bt407=>((card_Measures.f k x7).bind fun bt409=>(if bt403.2 = 0 then (if bt405.2 = 0 then (if bt407.2 = 0 then (if bt409.2.2.2.2 = 0 then (if bt407.1.toList = x7.toList then (if (bt403.1.size:Int) = (x7.size:Int) then (numnahlaw01_CardTwice.j1 k x7 x8 bt403.1 bt405.1 ((bt405.1.size:Int) != (x7.size:Int)) bt409.1 bt409.2.1 bt409.2.2.1 bt409.2.2.2.1) else (numnahlaw01_CardTwice.j1 k x7 x8 bt403.1 bt405.1 true bt409.1 bt409.2.1 bt409.2.2.1 bt409.2.2.2.1)) else (numnahlaw01_CardTwice.j1 k x7 x8 bt403.1 bt405.1 true bt409.1 bt409.2.1 bt409.2.2.1 bt409.2.2.2.1)) else (numnahlaw01_CardTwice.j1 k x7 x8 bt403.1 bt405.1 true bt409.1 bt409.2.1 bt409.2.2.1 bt409.2.2.2.1)) else (numnahlaw01_CardTwice.j1 k x7 x8 bt403.1 bt405.1 true bt409.1 bt409.2.1 bt409.2.2.1 bt409.2.2.2.1)) else (numnahlaw01_CardTwice.j1 k x7 x8 bt403.1 bt405.1 true bt409.1 bt409.2.1 bt409.2.2.1 bt409.2.2.2.1)) else (numnahlaw01_CardTwice.j1 k x7 x8 bt403.1 bt405.1 true bt409.1 bt409.2.1 bt409.2.2.1 bt409.2.2.2.1)))))
def numnahlaw01_CardTwice.j1:Nat → ByteArray → Int → ByteArray → ByteArray → Bool → Int → Int → Int → Int → Option (Bool)
 | 0,_,_,_,_,_,_,_,_,_=>none
 | k + 1,x7,x8,x10,x12,x103,x415000,x415001,x415002,x415003=>if x103 = true then (some false) else (numnahlaw01_CardTwice.l0 k x7 x8 x10 x12 0 x415000 x415001 x415002 x415003)
def numnahlaw01_CardTwice.l0:Nat → ByteArray → Int → ByteArray → ByteArray → Int → Int → Int → Int → Int → Option (Bool)
 | 0,_,_,_,_,_,_,_,_,_=>none
 | k + 1,x7,x8,x10,x12,x18,x415000,x415001,x415002,x415003=>if x18 < (x7.size:Int) then (if 0 ≤ x18 then (if x18 < (x10.size:Int) then (if x18 < (x12.size:Int) then (if (((bt x10 x18) != (bt x12 x18)) != ((Go.bits .andNot .i64 x8 x18) == 0)) = true then (some false) else (numnahlaw01_CardTwice.l0 k x7 x8 x10 x12 (wrap64 (x18 + 1)) x415000 x415001 x415002 x415003)) else (none)) else (none)) else (none)) else (if 0 ≤ (wrap64 ((x10.size:Int) - 1)) then (if (wrap64 ((x10.size:Int) - 1)) < (x10.size:Int) then (if (((bt x10 (wrap64 ((x10.size:Int) - 1))) == 49) == ((Int.tmod x415003 2) == 1)) = true then ((numnahlaw01_awake.f).bind fun t415=>(some t415)) else (some false)) else (none)) else (none))
end
def numnahlaw01_CardTwice.f (k:Nat) (a0:Int) (a1:ByteArray) (a2:Int):Option (Bool):=(numnahlaw01_mod.f a0 5).bind fun t400=>((numnahlaw01_function.f k a1 (wrap64 (1 + t400)) 2).bind fun t401=>(if 0 ≤ (wrap64 (1 + t400)) then ((numnahlaw01_mod.f a2 (shl .i64 1 (wrap64 (1 + t400)))).bind fun t402=>(if 0 ≤ t402 then (if t402 ≤ (t401.size:Int) then (if (t401.extract 0 (t402:Int).toNat).size + 1 ≤ 9223372036854775807 then (if 0 ≤ (wrap64 (t402 + 1)) then (if (wrap64 (t402 + 1)) ≤ (t401.size:Int) then (if ((t401.extract 0 (t402:Int).toNat) ++ (⟨#[49]⟩:ByteArray)).size + (t401.extract ((wrap64 (t402 + 1)):Int).toNat t401.size).size ≤ 9223372036854775807 then (if t402 < (t401.size:Int) then (if (bt t401 t402) = 49 then (if ((t401.extract 0 (t402:Int).toNat) ++ (⟨#[48]⟩:ByteArray)).size + (t401.extract ((wrap64 (t402 + 1)):Int).toNat t401.size).size ≤ 9223372036854775807 then (numnahlaw01_CardTwice.j0 k t401 t402 (((t401.extract 0 (t402:Int).toNat) ++ (⟨#[48]⟩:ByteArray)) ++ (t401.extract ((wrap64 (t402 + 1)):Int).toNat t401.size))) else (none)) else (numnahlaw01_CardTwice.j0 k t401 t402 (((t401.extract 0 (t402:Int).toNat) ++ (⟨#[49]⟩:ByteArray)) ++ (t401.extract ((wrap64 (t402 + 1)):Int).toNat t401.size)))) else (none)) else (none)) else (none)) else (none)) else (none)) else (none)) else (none))) else (none)))
theorem numnahlaw01_CardTwice.mono_l:∀ k,(∀ y0 y1 y2,LeO (numnahlaw01_CardTwice.j0 k y0 y1 y2) (numnahlaw01_CardTwice.j0 (k + 1) y0 y1 y2)) ∧ (∀ y0 y1 y2 y3 y4 y5 y6 y7 y8,LeO (numnahlaw01_CardTwice.j1 k y0 y1 y2 y3 y4 y5 y6 y7 y8) (numnahlaw01_CardTwice.j1 (k + 1) y0 y1 y2 y3 y4 y5 y6 y7 y8)) ∧ (∀ y0 y1 y2 y3 y4 y5 y6 y7 y8,LeO (numnahlaw01_CardTwice.l0 k y0 y1 y2 y3 y4 y5 y6 y7 y8) (numnahlaw01_CardTwice.l0 (k + 1) y0 y1 y2 y3 y4 y5 y6 y7 y8))
 | 0=>⟨fun _ _ _ r h=>by simp [numnahlaw01_CardTwice.j0] at h,fun _ _ _ _ _ _ _ _ _ r h=>by simp [numnahlaw01_CardTwice.j1] at h,fun _ _ _ _ _ _ _ _ _ r h=>by simp [numnahlaw01_CardTwice.l0] at h⟩
 | k + 1=>by
  obtain ⟨ih0,ih1,ih2⟩:=numnahlaw01_CardTwice.mono_l k
  refine ⟨?_,?_,?_⟩
  ·intro y0 y1 y2
   unfold numnahlaw01_CardTwice.j0
   repeat' first
   | (with_reducible exact ih0 _ _ _)
   | (with_reducible exact ih1 _ _ _ _ _ _ _ _ _)
   | (with_reducible exact ih2 _ _ _ _ _ _ _ _ _)
   | (with_reducible exact card_Measures.mono _ _)
   | (with_reducible exact card_Sum.mono _ _)
   | (with_reducible exact numnahlaw01_function.mono _ _ _ _)
   | (with_reducible exact LeO.refl _)
   | (with_reducible exact LeO.none _)
   | (with_reducible refine LeO.ite ?_ ?_)
   | (with_reducible refine LeO.bind ?_ (fun _=>?_))
   | exact ih0 _ _ _
   | exact ih1 _ _ _ _ _ _ _ _ _
   | exact ih2 _ _ _ _ _ _ _ _ _
   | exact card_Measures.mono _ _
   | exact card_Sum.mono _ _
   | exact numnahlaw01_function.mono _ _ _ _
   | exact LeO.none _
   | refine LeO.ite ?_ ?_
   | refine LeO.bind ?_ (fun _=>?_)
  ·intro y0 y1 y2 y3 y4 y5 y6 y7 y8
   unfold numnahlaw01_CardTwice.j1
   repeat' first
   | (with_reducible exact ih0 _ _ _)
   | (with_reducible exact ih1 _ _ _ _ _ _ _ _ _)
   | (with_reducible exact ih2 _ _ _ _ _ _ _ _ _)
   | (with_reducible exact card_Measures.mono _ _)
   | (with_reducible exact card_Sum.mono _ _)
   | (with_reducible exact numnahlaw01_function.mono _ _ _ _)
   | (with_reducible exact LeO.refl _)
   | (with_reducible exact LeO.none _)
   | (with_reducible refine LeO.ite ?_ ?_)
   | (with_reducible refine LeO.bind ?_ (fun _=>?_))
   | exact ih0 _ _ _
   | exact ih1 _ _ _ _ _ _ _ _ _
   | exact ih2 _ _ _ _ _ _ _ _ _
   | exact card_Measures.mono _ _
   | exact card_Sum.mono _ _
   | exact numnahlaw01_function.mono _ _ _ _
   | exact LeO.none _
   | refine LeO.ite ?_ ?_
   | refine LeO.bind ?_ (fun _=>?_)
  intro y0 y1 y2 y3 y4 y5 y6 y7 y8
  unfold numnahlaw01_CardTwice.l0
  repeat' first
  | (with_reducible exact ih0 _ _ _)
  | (with_reducible exact ih1 _ _ _ _ _ _ _ _ _)
  | (with_reducible exact ih2 _ _ _ _ _ _ _ _ _)
  | (with_reducible exact card_Measures.mono _ _)
  | (with_reducible exact card_Sum.mono _ _)
  | (with_reducible exact numnahlaw01_function.mono _ _ _ _)
  | (with_reducible exact LeO.refl _)
  | (with_reducible exact LeO.none _)
  | (with_reducible refine LeO.ite ?_ ?_)
  | (with_reducible refine LeO.bind ?_ (fun _=>?_))
  | exact ih0 _ _ _
  | exact ih1 _ _ _ _ _ _ _ _ _
  | exact ih2 _ _ _ _ _ _ _ _ _
  | exact card_Measures.mono _ _
  | exact card_Sum.mono _ _
  | exact numnahlaw01_function.mono _ _ _ _
  | exact LeO.none _
  | refine LeO.ite ?_ ?_
  | refine LeO.bind ?_ (fun _=>?_)
theorem numnahlaw01_CardTwice.mono:∀ a0 a1 a2 k,LeO (numnahlaw01_CardTwice.f k a0 a1 a2) (numnahlaw01_CardTwice.f (k + 1) a0 a1 a2):=by
 intro a0 a1 a2 k
 obtain ⟨ih0,ih1,ih2⟩:=numnahlaw01_CardTwice.mono_l k
 unfold numnahlaw01_CardTwice.f
 repeat' first
   | (with_reducible exact ih0 _ _ _)
   | (with_reducible exact ih1 _ _ _ _ _ _ _ _ _)
   | (with_reducible exact ih2 _ _ _ _ _ _ _ _ _)
   | (with_reducible exact card_Measures.mono _ _)
   | (with_reducible exact card_Sum.mono _ _)
   | (with_reducible exact numnahlaw01_function.mono _ _ _ _)
   | (with_reducible exact LeO.refl _)
   | (with_reducible exact LeO.none _)
   | (with_reducible refine LeO.ite ?_ ?_)
   | (with_reducible refine LeO.bind ?_ (fun _=>?_))
   | exact ih0 _ _ _
   | exact ih1 _ _ _ _ _ _ _ _ _
   | exact ih2 _ _ _ _ _ _ _ _ _
   | exact card_Measures.mono _ _
   | exact card_Sum.mono _ _
   | exact numnahlaw01_function.mono _ _ _ _
   | exact LeO.none _
   | refine LeO.ite ?_ ?_
   | refine LeO.bind ?_ (fun _=>?_)
def numnahlaw01_CardTwice.T4:Bool × List (List Nat × List Nat):=(true,[([],[]),([],[]),([0,1],[0,1]),([2],[2]),([],[]),([],[]),([5],[5]),([4,6],[4,6]),([3,7],[3,7]),([8,0,1,2,3,4,5,6,7,8],[8])])
def numnahlaw01_CardTwice.B4:List Nat:=[0,0,3,7,0,0,32,112,255,511]
theorem numnahlaw01_CardTwice.tab4:rtab .any (opsOf Try.f11 4) = numnahlaw01_CardTwice.T4:=by kernel_rfl
theorem numnahlaw01_CardTwice.bits4:waitsOk numnahlaw01_CardTwice.T4.2 numnahlaw01_CardTwice.B4 = true:=by kernel_rfl
def numnahlaw01_CardTwice.T6:Bool × List (List Nat × List Nat):=(true,[([],[]),([],[]),([0,1],[0,1]),([2],[2]),([],[]),([],[]),([5],[5]),([4,6],[4,6]),([3,7],[3,7]),([8,0,1,2,3,4,5,6,7,8],[8])])
def numnahlaw01_CardTwice.B6:List Nat:=[0,0,3,7,0,0,32,112,255,511]
theorem numnahlaw01_CardTwice.tab6:rtab .any (opsOf Try.f11 6) = numnahlaw01_CardTwice.T6:=by kernel_rfl
theorem numnahlaw01_CardTwice.bits6:waitsOk numnahlaw01_CardTwice.T6.2 numnahlaw01_CardTwice.B6 = true:=by kernel_rfl
def numnahlaw01_CardTwice.T16:Bool × List (List Nat × List Nat):=(true,[([],[]),([],[]),([0,1],[0,1]),([],[]),([],[]),([3,4],[3,4]),([2,5],[2,5]),([],[]),([],[]),([7,8],[7,8]),([9],[9]),([6,10],[6,10])])
def numnahlaw01_CardTwice.B16:List Nat:=[0,0,3,0,0,24,63,0,0,384,896,2047]
theorem numnahlaw01_CardTwice.tab16:rtab .any (opsOf Try.f11 16) = numnahlaw01_CardTwice.T16:=by kernel_rfl
theorem numnahlaw01_CardTwice.bits16:waitsOk numnahlaw01_CardTwice.T16.2 numnahlaw01_CardTwice.B16 = true:=by kernel_rfl
def numnahlaw01_CardTwice.T18:Bool × List (List Nat × List Nat):=(true,[([],[]),([],[]),([1],[1]),([2],[2]),([0,3],[0,3]),([4],[4]),([],[]),([6],[6]),([7],[7]),([8],[8]),([5,9],[5,9]),([10],[10]),([11,11],[11]),([11,12],[11,12]),([13,12,0,1,2,3,4,5,6,7,8,9,10,11,12,13],[13])])
def numnahlaw01_CardTwice.B18:List Nat:=[0,0,2,6,15,31,0,64,192,448,1023,2047,4095,8191,16383]
theorem numnahlaw01_CardTwice.tab18:rtab .any (opsOf Try.f11 18) = numnahlaw01_CardTwice.T18:=by kernel_rfl
theorem numnahlaw01_CardTwice.bits18:waitsOk numnahlaw01_CardTwice.T18.2 numnahlaw01_CardTwice.B18 = true:=by kernel_rfl
theorem numnahlaw01_CardTwice.calls (k:Nat) (a0:Int) (a1:ByteArray) (a2:Int) (r:Bool) (w:World) (h:numnahlaw01_CardTwice.f k a0 a1 a2 = some r) :
  Calls Try.prog 11 #[.int .i64 a0,.string a1,.int .i64 a2] w fun e w'=>e = .returned (.bool r) ∧ Below w.heap.size w w':=by
 have hu65:=Try.underlying65
 have HB:=Aside0.mk (Below.refl w.heap.size w)
 have H:((numnahlaw01_mod.f a0 5).bind fun t400=>((numnahlaw01_function.f k a1 (wrap64 (1 + t400)) 2).bind fun t401=>(if 0 ≤ (wrap64 (1 + t400)) then ((numnahlaw01_mod.f a2 (shl .i64 1 (wrap64 (1 + t400)))).bind fun t402=>(if 0 ≤ t402 then (if t402 ≤ (t401.size:Int) then (if (t401.extract 0 (t402:Int).toNat).size + 1 ≤ 9223372036854775807 then (if 0 ≤ (wrap64 (t402 + 1)) then (if (wrap64 (t402 + 1)) ≤ (t401.size:Int) then (if ((t401.extract 0 (t402:Int).toNat) ++ (⟨#[49]⟩:ByteArray)).size + (t401.extract ((wrap64 (t402 + 1)):Int).toNat t401.size).size ≤ 9223372036854775807 then (if t402 < (t401.size:Int) then (if (bt t401 t402) = 49 then (if ((t401.extract 0 (t402:Int).toNat) ++ (⟨#[48]⟩:ByteArray)).size + (t401.extract ((wrap64 (t402 + 1)):Int).toNat t401.size).size ≤ 9223372036854775807 then (numnahlaw01_CardTwice.j0 k t401 t402 (((t401.extract 0 (t402:Int).toNat) ++ (⟨#[48]⟩:ByteArray)) ++ (t401.extract ((wrap64 (t402 + 1)):Int).toNat t401.size))) else (none)) else (numnahlaw01_CardTwice.j0 k t401 t402 (((t401.extract 0 (t402:Int).toNat) ++ (⟨#[49]⟩:ByteArray)) ++ (t401.extract ((wrap64 (t402 + 1)):Int).toNat t401.size)))) else (none)) else (none)) else (none)) else (none)) else (none)) else (none)) else (none))) else (none)))) = some r:=h
 clear h
 replace H:=Option.bind_eq_some_iff.mp H
 obtain ⟨t400,A40,H⟩:=H
 replace H:((numnahlaw01_function.f k a1 (wrap64 (1 + t400)) 2).bind fun t401=>(if 0 ≤ (wrap64 (1 + t400)) then ((numnahlaw01_mod.f a2 (shl .i64 1 (wrap64 (1 + t400)))).bind fun t402=>(if 0 ≤ t402 then (if t402 ≤ (t401.size:Int) then (if (t401.extract 0 (t402:Int).toNat).size + 1 ≤ 9223372036854775807 then (if 0 ≤ (wrap64 (t402 + 1)) then (if (wrap64 (t402 + 1)) ≤ (t401.size:Int) then (if ((t401.extract 0 (t402:Int).toNat) ++ (⟨#[49]⟩:ByteArray)).size + (t401.extract ((wrap64 (t402 + 1)):Int).toNat t401.size).size ≤ 9223372036854775807 then (if t402 < (t401.size:Int) then (if (bt t401 t402) = 49 then (if ((t401.extract 0 (t402:Int).toNat) ++ (⟨#[48]⟩:ByteArray)).size + (t401.extract ((wrap64 (t402 + 1)):Int).toNat t401.size).size ≤ 9223372036854775807 then (numnahlaw01_CardTwice.j0 k t401 t402 (((t401.extract 0 (t402:Int).toNat) ++ (⟨#[48]⟩:ByteArray)) ++ (t401.extract ((wrap64 (t402 + 1)):Int).toNat t401.size))) else (none)) else (numnahlaw01_CardTwice.j0 k t401 t402 (((t401.extract 0 (t402:Int).toNat) ++ (⟨#[49]⟩:ByteArray)) ++ (t401.extract ((wrap64 (t402 + 1)):Int).toNat t401.size)))) else (none)) else (none)) else (none)) else (none)) else (none)) else (none)) else (none))) else (none))) = some r:=H
 have A4:=Aside0.mk A40
 clear A40
 replace H:=Option.bind_eq_some_iff.mp H
 obtain ⟨t401,A50,H⟩:=H
 replace H:(if 0 ≤ (wrap64 (1 + t400)) then ((numnahlaw01_mod.f a2 (shl .i64 1 (wrap64 (1 + t400)))).bind fun t402=>(if 0 ≤ t402 then (if t402 ≤ (t401.size:Int) then (if (t401.extract 0 (t402:Int).toNat).size + 1 ≤ 9223372036854775807 then (if 0 ≤ (wrap64 (t402 + 1)) then (if (wrap64 (t402 + 1)) ≤ (t401.size:Int) then (if ((t401.extract 0 (t402:Int).toNat) ++ (⟨#[49]⟩:ByteArray)).size + (t401.extract ((wrap64 (t402 + 1)):Int).toNat t401.size).size ≤ 9223372036854775807 then (if t402 < (t401.size:Int) then (if (bt t401 t402) = 49 then (if ((t401.extract 0 (t402:Int).toNat) ++ (⟨#[48]⟩:ByteArray)).size + (t401.extract ((wrap64 (t402 + 1)):Int).toNat t401.size).size ≤ 9223372036854775807 then (numnahlaw01_CardTwice.j0 k t401 t402 (((t401.extract 0 (t402:Int).toNat) ++ (⟨#[48]⟩:ByteArray)) ++ (t401.extract ((wrap64 (t402 + 1)):Int).toNat t401.size))) else (none)) else (numnahlaw01_CardTwice.j0 k t401 t402 (((t401.extract 0 (t402:Int).toNat) ++ (⟨#[49]⟩:ByteArray)) ++ (t401.extract ((wrap64 (t402 + 1)):Int).toNat t401.size)))) else (none)) else (none)) else (none)) else (none)) else (none)) else (none)) else (none))) else (none)) = some r:=H
 have A5:=Aside0.mk A50
 clear A50
 obtain ⟨ji6,hji6⟩:∃ j_:Int,(wrap64 (1 + t400)) = j_:=⟨_,rfl⟩
 replace H:(if 0 ≤ (ji6) then ((numnahlaw01_mod.f a2 (shl .i64 1 (ji6))).bind fun t402=>(if 0 ≤ t402 then (if t402 ≤ (t401.size:Int) then (if (t401.extract 0 (t402:Int).toNat).size + 1 ≤ 9223372036854775807 then (if 0 ≤ (wrap64 (t402 + 1)) then (if (wrap64 (t402 + 1)) ≤ (t401.size:Int) then (if ((t401.extract 0 (t402:Int).toNat) ++ (⟨#[49]⟩:ByteArray)).size + (t401.extract ((wrap64 (t402 + 1)):Int).toNat t401.size).size ≤ 9223372036854775807 then (if t402 < (t401.size:Int) then (if (bt t401 t402) = 49 then (if ((t401.extract 0 (t402:Int).toNat) ++ (⟨#[48]⟩:ByteArray)).size + (t401.extract ((wrap64 (t402 + 1)):Int).toNat t401.size).size ≤ 9223372036854775807 then (numnahlaw01_CardTwice.j0 k t401 t402 (((t401.extract 0 (t402:Int).toNat) ++ (⟨#[48]⟩:ByteArray)) ++ (t401.extract ((wrap64 (t402 + 1)):Int).toNat t401.size))) else (none)) else (numnahlaw01_CardTwice.j0 k t401 t402 (((t401.extract 0 (t402:Int).toNat) ++ (⟨#[49]⟩:ByteArray)) ++ (t401.extract ((wrap64 (t402 + 1)):Int).toNat t401.size)))) else (none)) else (none)) else (none)) else (none)) else (none)) else (none)) else (none))) else (none)) = some r:=by first | (rw [hji6] at H;exact H) | (simp only [hji6] at H ⊢;exact H)
 (try rw [hji6] at A4)
 (try rw [hji6] at A5)
 have hji6w:(IntKind.i64.wrap (1 + t400)) = ji6:=(i64_w _).trans hji6
 by_cases c7:0 ≤ (ji6)
 case neg =>
  rw [if_neg c7] at H
  exact absurd H (by simp)
 rw [if_pos c7] at H
 have c7b0:=eq_true c7
 have c7b1:decide (0 ≤ (ji6)) = true:=decide_eq_true c7
 clear c7
 obtain ⟨ji8,hji8⟩:∃ j_:Int,(shl .i64 1 (ji6)) = j_:=⟨_,rfl⟩
 replace H:((numnahlaw01_mod.f a2 (ji8)).bind fun t402=>(if 0 ≤ t402 then (if t402 ≤ (t401.size:Int) then (if (t401.extract 0 (t402:Int).toNat).size + 1 ≤ 9223372036854775807 then (if 0 ≤ (wrap64 (t402 + 1)) then (if (wrap64 (t402 + 1)) ≤ (t401.size:Int) then (if ((t401.extract 0 (t402:Int).toNat) ++ (⟨#[49]⟩:ByteArray)).size + (t401.extract ((wrap64 (t402 + 1)):Int).toNat t401.size).size ≤ 9223372036854775807 then (if t402 < (t401.size:Int) then (if (bt t401 t402) = 49 then (if ((t401.extract 0 (t402:Int).toNat) ++ (⟨#[48]⟩:ByteArray)).size + (t401.extract ((wrap64 (t402 + 1)):Int).toNat t401.size).size ≤ 9223372036854775807 then (numnahlaw01_CardTwice.j0 k t401 t402 (((t401.extract 0 (t402:Int).toNat) ++ (⟨#[48]⟩:ByteArray)) ++ (t401.extract ((wrap64 (t402 + 1)):Int).toNat t401.size))) else (none)) else (numnahlaw01_CardTwice.j0 k t401 t402 (((t401.extract 0 (t402:Int).toNat) ++ (⟨#[49]⟩:ByteArray)) ++ (t401.extract ((wrap64 (t402 + 1)):Int).toNat t401.size)))) else (none)) else (none)) else (none)) else (none)) else (none)) else (none)) else (none))) = some r:=by first | (rw [hji8] at H;exact H) | (simp only [hji8] at H ⊢;exact H)
 (try rw [hji8] at A4)
 (try rw [hji8] at A5)
 have hji8_:(IntKind.i64.wrap (1 * 2 ^ min (ji6).toNat 64)) = ji8:=hji8
 have hji8z:(ji6) ≤ 64 → (IntKind.i64.wrap (1 * 2 ^ (ji6).toNat)) = ji8:=shl_small hji8
 have hji8u:(IntKind.i64.wrap (2 ^ min (ji6).toNat 64)) = ji8:=by have h_:=hji8_;rw [Int.one_mul] at h_;exact h_
 have hji8v:(ji6) ≤ 64 → (IntKind.i64.wrap (2 ^ (ji6).toNat)) = ji8:=fun hle_=>by have h_:=hji8z hle_;rw [Int.one_mul] at h_;exact h_
 have hji8y:(wrap64 (1 * 2 ^ min (ji6).toNat 64)) = ji8:=(i64_w _).symm.trans hji8_
 have hji8x:(ji6) ≤ 64 → (wrap64 (1 * 2 ^ (ji6).toNat)) = ji8:=fun h_=>(i64_w _).symm.trans (hji8z h_)
 replace H:=Option.bind_eq_some_iff.mp H
 obtain ⟨t402,A90,H⟩:=H
 replace H:(if 0 ≤ t402 then (if t402 ≤ (t401.size:Int) then (if (t401.extract 0 (t402:Int).toNat).size + 1 ≤ 9223372036854775807 then (if 0 ≤ (wrap64 (t402 + 1)) then (if (wrap64 (t402 + 1)) ≤ (t401.size:Int) then (if ((t401.extract 0 (t402:Int).toNat) ++ (⟨#[49]⟩:ByteArray)).size + (t401.extract ((wrap64 (t402 + 1)):Int).toNat t401.size).size ≤ 9223372036854775807 then (if t402 < (t401.size:Int) then (if (bt t401 t402) = 49 then (if ((t401.extract 0 (t402:Int).toNat) ++ (⟨#[48]⟩:ByteArray)).size + (t401.extract ((wrap64 (t402 + 1)):Int).toNat t401.size).size ≤ 9223372036854775807 then (numnahlaw01_CardTwice.j0 k t401 t402 (((t401.extract 0 (t402:Int).toNat) ++ (⟨#[48]⟩:ByteArray)) ++ (t401.extract ((wrap64 (t402 + 1)):Int).toNat t401.size))) else (none)) else (numnahlaw01_CardTwice.j0 k t401 t402 (((t401.extract 0 (t402:Int).toNat) ++ (⟨#[49]⟩:ByteArray)) ++ (t401.extract ((wrap64 (t402 + 1)):Int).toNat t401.size)))) else (none)) else (none)) else (none)) else (none)) else (none)) else (none)) else (none)) = some r:=H
 have A9:=Aside0.mk A90
 clear A90
 by_cases c10:0 ≤ t402
 case neg =>
  rw [if_neg c10] at H
  exact absurd H (by simp)
 rw [if_pos c10] at H
 have c10b0:=eq_true c10
 have c10b1:decide (0 ≤ t402) = true:=decide_eq_true c10
 clear c10
 by_cases c11:t402 ≤ (t401.size:Int)
 case neg =>
  rw [if_neg c11] at H
  exact absurd H (by simp)
 rw [if_pos c11] at H
 have c11b0:=eq_true c11
 have c11b1:decide (t402 ≤ (t401.size:Int)) = true:=decide_eq_true c11
 clear c11
 by_cases c12:(t401.extract 0 (t402:Int).toNat).size + 1 ≤ 9223372036854775807
 case neg =>
  rw [if_neg c12] at H
  exact absurd H (by simp)
 rw [if_pos c12] at H
 have c12b0:=eq_true c12
 have c12b1:decide ((t401.extract 0 (t402:Int).toNat).size + 1 ≤ 9223372036854775807) = true:=decide_eq_true c12
 have cc1_:(9223372036854775807 < (t402:Int).toNat + 1) = False:=eq_false (by have h1_:=c12;have h2_:t402 ≤ (t401.size:Int):=of_decide_eq_true (by assumption);rw [ByteArray.size_extract] at h1_;omega)
 try have c12b2:(9223372036854775807 < (t401.extract 0 (t402:Int).toNat).size + 1) = False:=eq_false (Nat.not_lt.2 c12)
 obtain ⟨ji13,hji13⟩:∃ j_:Int,(wrap64 (t402 + 1)) = j_:=⟨_,rfl⟩
 replace H:(if 0 ≤ (ji13) then (if (ji13) ≤ (t401.size:Int) then (if ((t401.extract 0 (t402:Int).toNat) ++ (⟨#[49]⟩:ByteArray)).size + (t401.extract ((ji13):Int).toNat t401.size).size ≤ 9223372036854775807 then (if t402 < (t401.size:Int) then (if (bt t401 t402) = 49 then (if ((t401.extract 0 (t402:Int).toNat) ++ (⟨#[48]⟩:ByteArray)).size + (t401.extract ((ji13):Int).toNat t401.size).size ≤ 9223372036854775807 then (numnahlaw01_CardTwice.j0 k t401 t402 (((t401.extract 0 (t402:Int).toNat) ++ (⟨#[48]⟩:ByteArray)) ++ (t401.extract ((ji13):Int).toNat t401.size))) else (none)) else (numnahlaw01_CardTwice.j0 k t401 t402 (((t401.extract 0 (t402:Int).toNat) ++ (⟨#[49]⟩:ByteArray)) ++ (t401.extract ((ji13):Int).toNat t401.size)))) else (none)) else (none)) else (none)) else (none)) = some r:=by first | (rw [hji13] at H;exact H) | (simp only [hji13] at H ⊢;exact H)
 (try rw [hji13] at A4)
 (try rw [hji13] at A5)
 (try rw [hji13] at A9)
 have hji13w:(IntKind.i64.wrap (t402 + 1)) = ji13:=(i64_w _).trans hji13
 by_cases c14:0 ≤ (ji13)
 case neg =>
  rw [if_neg c14] at H
  exact absurd H (by simp)
 rw [if_pos c14] at H
 have c14b0:=eq_true c14
 have c14b1:decide (0 ≤ (ji13)) = true:=decide_eq_true c14
 clear c14
 by_cases c15:(ji13) ≤ (t401.size:Int)
 case neg =>
  rw [if_neg c15] at H
  exact absurd H (by simp)
 rw [if_pos c15] at H
 have c15b0:=eq_true c15
 have c15b1:decide ((ji13) ≤ (t401.size:Int)) = true:=decide_eq_true c15
 clear c15
 by_cases c16:((t401.extract 0 (t402:Int).toNat) ++ (⟨#[49]⟩:ByteArray)).size + (t401.extract ((ji13):Int).toNat t401.size).size ≤ 9223372036854775807
 case neg =>
  rw [if_neg c16] at H
  exact absurd H (by simp)
 rw [if_pos c16] at H
 have c16b0:=eq_true c16
 have c16b1:decide (((t401.extract 0 (t402:Int).toNat) ++ (⟨#[49]⟩:ByteArray)).size + (t401.extract ((ji13):Int).toNat t401.size).size ≤ 9223372036854775807) = true:=decide_eq_true c16
 have ccc16_:(9223372036854775807 < (t402:Int).toNat + 1 + (t401.size - (ji13:Int).toNat)) = False:=eq_false (by have h1_:=c16;have h2_:t402 ≤ (t401.size:Int):=of_decide_eq_true (by assumption);have h3_:ji13 ≤ (t401.size:Int):=of_decide_eq_true (by assumption);simp only [ByteArray.size_append,ByteArray.size_extract] at h1_;have h4_:(⟨#[49]⟩:ByteArray).size = 1:=rfl;have h5_:(⟨#[48]⟩:ByteArray).size = 1:=rfl;omega)
 try have c16b2:(9223372036854775807 < ((t401.extract 0 (t402:Int).toNat) ++ (⟨#[49]⟩:ByteArray)).size + (t401.extract ((ji13):Int).toNat t401.size).size) = False:=eq_false (Nat.not_lt.2 c16)
 by_cases c17:t402 < (t401.size:Int)
 case neg =>
  rw [if_neg c17] at H
  exact absurd H (by simp)
 rw [if_pos c17] at H
 have c17b0:decide (t402 < (t401.size:Int)) = true:=decide_eq_true c17
 clear c17
 have HC19:=Aside0.mk H
 clear H
 go_enter Try.func11,Try.ntmps11
 try go_wp2_with (first | ((with_reducible refine gate_callee (f:=27) rfl ?_);refine goesL_ (some 20) rfl rfl Try.func27 (by kernel_rfl) rfl #[.int .i64 a0,.int .i64 5] rfl gm_ ?_;(with_reducible refine (numnahlaw01_mod.calls a0 5 t400 _ A4.out).mono ?_);rintro e w' ⟨rfl,⟨nd,rfl⟩⟩;refine ⟨_,rfl,?_⟩) | ((with_reducible refine gate_callee (f:=28) rfl ?_);refine goesL_ (some 24) rfl rfl Try.func28 (by kernel_rfl) rfl #[.string a1,.int .i64 ji6,.int .i64 2] rfl (by (try simp only [List.map_toArray,List.map_cons,List.map_nil]);first | done | (simp only [hji6];rfl) | rfl | (simp only [List.length_drop,List.length_take];rfl)) ?_;(with_reducible refine (numnahlaw01_function.calls k a1 ji6 2 t401 _ A5.out).mono ?_);rintro e w20 ⟨rfl,hb⟩;refine ⟨_,rfl,?_⟩;have n0_:=Aside0.mk (below_step (by repeat (first | (with_reducible first | exact HB.out | apply below_alloc | apply pw_below_drewN | apply below_drew1) | exact HB.out)) hb);clear HB;have HB:=n0_;clear n0_;(try clear hb)) | ((with_reducible refine gate_callee (f:=27) rfl ?_);refine goesL_ (some 28) rfl rfl Try.func27 (by kernel_rfl) rfl #[.int .i64 a2,.int .i64 ji8] rfl (by (try simp only [List.map_toArray,List.map_cons,List.map_nil]);first | done | (simp only [hji8];rfl) | rfl | (simp only [List.length_drop,List.length_take];rfl)) ?_;(with_reducible refine (numnahlaw01_mod.calls a2 ji8 t402 _ A9.out).mono ?_);rintro e w' ⟨rfl,⟨nd,rfl⟩⟩;refine ⟨_,rfl,?_⟩))
 (try (rw [drewN_self w20];generalize hq_:World.drewN w20 _ = w20;have n0_:Aside0 (Below w.heap.size w w20):=⟨by rw [← hq_];exact (by repeat (first | (with_reducible first | exact HB.out | apply below_alloc | apply pw_below_drewN | apply below_drew1) | exact HB.out))⟩;clear HB hq_;have HB:=n0_;clear n0_))
 have n0_:=Aside0.mk (below_drew1 HB.out)
 clear HB
 have HB:=n0_
 clear n0_
 refine start_ (n:=10) (S:=fun w'=>True) (ds:=[]) #[false,false,false,false,false,false,false,false,false,false] (by kernel_rfl) rfl rfl trivial (fun hHeld=>?_);refine with_tabW numnahlaw01_CardTwice.tab4 numnahlaw01_CardTwice.bits4 (fun HT_ HW_=>?_)
 generalize w20.drew = w21 at HB hHeld ⊢
 refine pure_ (i:=0) (N:=some 29) (v:=?_) (a':=?_) #[true,false,false,false,false,false,false,false,false,false] rfl rfl (any_of HT_.out (by kernel_rfl)) (fun _ _ _ h=>h) (Or.inl ⟨by rfl,?_⟩) ?_ ?_
 rotate_left
 ·intro w'
  go_simp
  with_reducible rfl
 rotate_left
 ·simp only [Act.put,List.setIfInBounds_toArray,List.set_cons_zero,List.set_cons_succ,i64_w,i32_w]
  rfl
 refine pure_ (i:=1) (N:=some 30) (v:=?_) (a':=?_) #[true,true,false,false,false,false,false,false,false,false] rfl rfl (any_of HT_.out (by kernel_rfl)) (fun _ _ _ h=>h) (Or.inl ⟨by rfl,?_⟩) ?_ ?_
 rotate_left
 ·intro w'
  go_simp
  with_reducible rfl
 rotate_left
 ·simp only [Act.put,List.setIfInBounds_toArray,List.set_cons_zero,List.set_cons_succ,i64_w,i32_w]
  rfl
 refine pure_ (i:=2) (N:=some 31) (v:=?_) (a':=?_) #[true,true,true,false,false,false,false,false,false,false] rfl rfl (any_of HT_.out (by kernel_rfl)) (fun _ _ _ h=>h) (Or.inl ⟨by rfl,?_⟩) ?_ ?_
 rotate_left
 ·intro w'
  go_simp
  with_reducible rfl
 rotate_left
 ·simp only [Act.put,List.setIfInBounds_toArray,List.set_cons_zero,List.set_cons_succ,i64_w,i32_w]
  rfl
 refine pure_ (i:=3) (N:=some 32) (v:=?_) (a':=?_) #[true,true,true,true,false,false,false,false,false,false] rfl rfl (any_of HT_.out (by kernel_rfl)) (fun _ _ _ h=>h) (Or.inl ⟨by rfl,?_⟩) ?_ ?_
 rotate_left
 ·intro w'
  go_simp
  with_reducible rfl
 rotate_left
 ·simp only [Act.put,List.setIfInBounds_toArray,List.set_cons_zero,List.set_cons_succ,i64_w,i32_w]
  rfl
 refine pure_ (i:=4) (N:=some 33) (v:=?_) (a':=?_) #[true,true,true,true,true,false,false,false,false,false] rfl rfl (any_of HT_.out (by kernel_rfl)) (fun _ _ _ h=>h) (Or.inl ⟨by rfl,?_⟩) ?_ ?_
 rotate_left
 ·intro w'
  go_simp
  with_reducible rfl
 rotate_left
 ·simp only [Act.put,List.setIfInBounds_toArray,List.set_cons_zero,List.set_cons_succ,i64_w,i32_w]
  rfl
 refine pure_ (i:=5) (N:=some 34) (v:=?_) (a':=?_) #[true,true,true,true,true,true,false,false,false,false] rfl rfl (any_of HT_.out (by kernel_rfl)) (fun _ _ _ h=>h) (Or.inl ⟨by rfl,?_⟩) ?_ ?_
 rotate_left
 ·intro w'
  go_simp
  with_reducible rfl
 rotate_left
 ·simp only [Act.put,List.setIfInBounds_toArray,List.set_cons_zero,List.set_cons_succ,i64_w,i32_w]
  rfl
 refine pure_ (i:=6) (N:=some 35) (v:=?_) (a':=?_) #[true,true,true,true,true,true,true,false,false,false] rfl rfl (any_of HT_.out (by kernel_rfl)) (fun _ _ _ h=>h) (Or.inl ⟨by rfl,?_⟩) ?_ ?_
 rotate_left
 ·intro w'
  go_simp
  with_reducible rfl
 rotate_left
 ·simp only [Act.put,List.setIfInBounds_toArray,List.set_cons_zero,List.set_cons_succ,i64_w,i32_w]
  rfl
 refine pure_ (i:=7) (N:=some 36) (v:=?_) (a':=?_) #[true,true,true,true,true,true,true,true,false,false] rfl rfl (any_of HT_.out (by kernel_rfl)) (fun _ _ _ h=>h) (Or.inl ⟨by rfl,?_⟩) ?_ ?_
 rotate_left
 ·intro w'
  go_simp
  with_reducible rfl
 rotate_left
 ·simp only [Act.put,List.setIfInBounds_toArray,List.set_cons_zero,List.set_cons_succ,i64_w,i32_w]
  rfl
 refine pure_ (i:=8) (N:=some 37) (v:=?_) (a':=?_) #[true,true,true,true,true,true,true,true,true,false] rfl rfl (any_of HT_.out (by kernel_rfl)) (fun _ _ _ h=>h) (Or.inl ⟨by rfl,?_⟩) ?_ ?_
 rotate_left
 ·intro w'
  go_simp
  with_reducible rfl
 rotate_left
 ·simp only [Act.put,List.setIfInBounds_toArray,List.set_cons_zero,List.set_cons_succ,i64_w,i32_w]
  rfl
 refine pure_ (i:=9) (N:=some 9) (v:=?_) (a':=?_) #[true,true,true,true,true,true,true,true,true,true] rfl rfl (any_of HT_.out (by kernel_rfl)) (fun _ _ _ h=>h) (Or.inl ⟨by rfl,?_⟩) ?_ ?_
 rotate_left
 ·intro w'
  go_simp
  with_reducible rfl
 rotate_left
 ·simp only [Act.put,List.setIfInBounds_toArray,List.set_cons_zero,List.set_cons_succ,i64_w,i32_w]
  rfl
 refine done_ (done_of HT_.out (by kernel_rfl)) ?_
 have p18:0 ≤ (t402:Int):=of_decide_eq_true (by first | (with_reducible assumption) | assumption)
 have q18:t402 < (t401.size:Int):=of_decide_eq_true (by first | (with_reducible assumption) | assumption)
 have hx18:=bt_at t401 t402
 replace p18:=eq_true p18
 replace q18:=eq_true q18
 go_upto_if 41 with (fail)
 go_cut [9] (fun v9 wc=>∃ (kq:Nat) (x9_18:ByteArray),v9 = .string x9_18 ∧ Aside0 (numnahlaw01_CardTwice.j0 kq t401 t402 x9_18 = some r) ∧ Aside0 (kq ≤ k) ∧ Aside0 (Below w.heap.size w wc))
 case first =>
  have H:=HC19.out
  clear HC19
  by_cases c22:(bt t401 t402) = 49
  case neg =>
   rw [if_neg c22] at H
   have c22b0:((bt t401 t402) == 49) = false:=beq_eq_false_iff_ne.mpr c22
   have c22b1:((bt t401 t402) != 49) = true:=bne_iff_ne.mpr c22
   (first | rw [c22b0] | (simp only [i64_w,i32_w];rw [c22b0]) | skip)
   have H':=Aside0.mk H
   clear H
   go_wp2
   go_meet
   case rel=>exact ⟨_,(((t401.extract 0 (t402:Int).toNat) ++ (⟨#[49]⟩:ByteArray)) ++ (t401.extract ((ji13):Int).toNat t401.size)),(by first | rfl | (simp;done) | (simp only [← hji13] <;> (first | rfl | simp)) | (simp [*];done)),H',⟨by first | omega | exact Nat.le_refl _⟩,⟨by repeat (first | (with_reducible first | exact HB.out | apply below_alloc | apply pw_below_drewN | apply below_drew1) | exact HB.out)⟩⟩
  rw [if_pos c22] at H
  have c22b0:((bt t401 t402) == 49) = true:=beq_iff_eq.mpr c22
  have c22b1:((bt t401 t402) != 49) = false:=bne_eq_false_iff_eq.mpr c22
  clear c22
  (first | rw [c22b0] | (simp only [i64_w,i32_w];rw [c22b0]) | skip)
  have c23b0:=eq_true (of_decide_eq_true (by first | (with_reducible assumption) | assumption):0 ≤ t402)
  have c24b0:=eq_true (of_decide_eq_true (by first | (with_reducible assumption) | assumption):t402 ≤ (t401.size:Int))
  have c25b0:=eq_true (of_decide_eq_true (by first | (with_reducible assumption) | assumption):0 ≤ (ji13))
  have c26b0:=eq_true (of_decide_eq_true (by first | (with_reducible assumption) | assumption):(ji13) ≤ (t401.size:Int))
  by_cases c27:((t401.extract 0 (t402:Int).toNat) ++ (⟨#[48]⟩:ByteArray)).size + (t401.extract ((ji13):Int).toNat t401.size).size ≤ 9223372036854775807
  case neg =>
   rw [if_neg c27] at H
   exact absurd H (by simp)
  rw [if_pos c27] at H
  have c27b0:=eq_true c27
  have c27b1:decide (((t401.extract 0 (t402:Int).toNat) ++ (⟨#[48]⟩:ByteArray)).size + (t401.extract ((ji13):Int).toNat t401.size).size ≤ 9223372036854775807) = true:=decide_eq_true c27
  have ccc27_:(9223372036854775807 < (t402:Int).toNat + 1 + (t401.size - (ji13:Int).toNat)) = False:=eq_false (by have h1_:=c27;have h2_:t402 ≤ (t401.size:Int):=of_decide_eq_true (by assumption);have h3_:ji13 ≤ (t401.size:Int):=of_decide_eq_true (by assumption);simp only [ByteArray.size_append,ByteArray.size_extract] at h1_;have h4_:(⟨#[49]⟩:ByteArray).size = 1:=rfl;have h5_:(⟨#[48]⟩:ByteArray).size = 1:=rfl;omega)
  try have c27b2:(9223372036854775807 < ((t401.extract 0 (t402:Int).toNat) ++ (⟨#[48]⟩:ByteArray)).size + (t401.extract ((ji13):Int).toNat t401.size).size) = False:=eq_false (Nat.not_lt.2 c27)
  have H':=Aside0.mk H
  clear H
  try go_wp2
  have n0_:=Aside0.mk (below_drew1 HB.out)
  clear HB
  have HB:=n0_
  clear n0_
  refine start_ (n:=10) (S:=fun w'=>True) (ds:=[]) #[false,false,false,false,false,false,false,false,false,false] (by kernel_rfl) rfl rfl trivial (fun hHeld=>?_);refine with_tabW numnahlaw01_CardTwice.tab6 numnahlaw01_CardTwice.bits6 (fun HT_ HW_=>?_)
  generalize w21.drew = w28 at HB hHeld ⊢
  refine pure_ (i:=0) (N:=some 42) (v:=?_) (a':=?_) #[true,false,false,false,false,false,false,false,false,false] rfl rfl (any_of HT_.out (by kernel_rfl)) (fun _ _ _ h=>h) (Or.inl ⟨by rfl,?_⟩) ?_ ?_
  rotate_left
  ·intro w'
   go_simp
   with_reducible rfl
  rotate_left
  ·simp only [Act.put,List.setIfInBounds_toArray,List.set_cons_zero,List.set_cons_succ,i64_w,i32_w]
   rfl
  refine pure_ (i:=1) (N:=some 43) (v:=?_) (a':=?_) #[true,true,false,false,false,false,false,false,false,false] rfl rfl (any_of HT_.out (by kernel_rfl)) (fun _ _ _ h=>h) (Or.inl ⟨by rfl,?_⟩) ?_ ?_
  rotate_left
  ·intro w'
   go_simp
   with_reducible rfl
  rotate_left
  ·simp only [Act.put,List.setIfInBounds_toArray,List.set_cons_zero,List.set_cons_succ,i64_w,i32_w]
   rfl
  refine pure_ (i:=2) (N:=some 44) (v:=?_) (a':=?_) #[true,true,true,false,false,false,false,false,false,false] rfl rfl (any_of HT_.out (by kernel_rfl)) (fun _ _ _ h=>h) (Or.inl ⟨by rfl,?_⟩) ?_ ?_
  rotate_left
  ·intro w'
   go_simp
   with_reducible rfl
  rotate_left
  ·simp only [Act.put,List.setIfInBounds_toArray,List.set_cons_zero,List.set_cons_succ,i64_w,i32_w]
   rfl
  refine pure_ (i:=3) (N:=some 45) (v:=?_) (a':=?_) #[true,true,true,true,false,false,false,false,false,false] rfl rfl (any_of HT_.out (by kernel_rfl)) (fun _ _ _ h=>h) (Or.inl ⟨by rfl,?_⟩) ?_ ?_
  rotate_left
  ·intro w'
   go_simp
   with_reducible rfl
  rotate_left
  ·simp only [Act.put,List.setIfInBounds_toArray,List.set_cons_zero,List.set_cons_succ,i64_w,i32_w]
   rfl
  refine pure_ (i:=4) (N:=some 46) (v:=?_) (a':=?_) #[true,true,true,true,true,false,false,false,false,false] rfl rfl (any_of HT_.out (by kernel_rfl)) (fun _ _ _ h=>h) (Or.inl ⟨by rfl,?_⟩) ?_ ?_
  rotate_left
  ·intro w'
   go_simp
   with_reducible rfl
  rotate_left
  ·simp only [Act.put,List.setIfInBounds_toArray,List.set_cons_zero,List.set_cons_succ,i64_w,i32_w]
   rfl
  refine pure_ (i:=5) (N:=some 47) (v:=?_) (a':=?_) #[true,true,true,true,true,true,false,false,false,false] rfl rfl (any_of HT_.out (by kernel_rfl)) (fun _ _ _ h=>h) (Or.inl ⟨by rfl,?_⟩) ?_ ?_
  rotate_left
  ·intro w'
   go_simp
   with_reducible rfl
  rotate_left
  ·simp only [Act.put,List.setIfInBounds_toArray,List.set_cons_zero,List.set_cons_succ,i64_w,i32_w]
   rfl
  refine pure_ (i:=6) (N:=some 48) (v:=?_) (a':=?_) #[true,true,true,true,true,true,true,false,false,false] rfl rfl (any_of HT_.out (by kernel_rfl)) (fun _ _ _ h=>h) (Or.inl ⟨by rfl,?_⟩) ?_ ?_
  rotate_left
  ·intro w'
   go_simp
   with_reducible rfl
  rotate_left
  ·simp only [Act.put,List.setIfInBounds_toArray,List.set_cons_zero,List.set_cons_succ,i64_w,i32_w]
   rfl
  refine pure_ (i:=7) (N:=some 49) (v:=?_) (a':=?_) #[true,true,true,true,true,true,true,true,false,false] rfl rfl (any_of HT_.out (by kernel_rfl)) (fun _ _ _ h=>h) (Or.inl ⟨by rfl,?_⟩) ?_ ?_
  rotate_left
  ·intro w'
   go_simp
   with_reducible rfl
  rotate_left
  ·simp only [Act.put,List.setIfInBounds_toArray,List.set_cons_zero,List.set_cons_succ,i64_w,i32_w]
   rfl
  refine pure_ (i:=8) (N:=some 50) (v:=?_) (a':=?_) #[true,true,true,true,true,true,true,true,true,false] rfl rfl (any_of HT_.out (by kernel_rfl)) (fun _ _ _ h=>h) (Or.inl ⟨by rfl,?_⟩) ?_ ?_
  rotate_left
  ·intro w'
   go_simp
   with_reducible rfl
  rotate_left
  ·simp only [Act.put,List.setIfInBounds_toArray,List.set_cons_zero,List.set_cons_succ,i64_w,i32_w]
   rfl
  refine pure_ (i:=9) (N:=some 9) (v:=?_) (a':=?_) #[true,true,true,true,true,true,true,true,true,true] rfl rfl (any_of HT_.out (by kernel_rfl)) (fun _ _ _ h=>h) (Or.inl ⟨by rfl,?_⟩) ?_ ?_
  rotate_left
  ·intro w'
   go_simp
   with_reducible rfl
  rotate_left
  ·simp only [Act.put,List.setIfInBounds_toArray,List.set_cons_zero,List.set_cons_succ,i64_w,i32_w]
   rfl
  refine done_ (done_of HT_.out (by kernel_rfl)) ?_
  try go_wp2
  go_meet
  case rel=>exact ⟨_,(((t401.extract 0 (t402:Int).toNat) ++ (⟨#[48]⟩:ByteArray)) ++ (t401.extract ((ji13):Int).toNat t401.size)),(by first | rfl | (simp;done) | (simp only [← hji13] <;> (first | rfl | simp)) | (simp [*];done)),H',⟨by first | omega | exact Nat.le_refl _⟩,⟨by repeat (first | (with_reducible first | exact HB.out | apply below_alloc | apply pw_below_drewN | apply below_drew1) | exact HB.out)⟩⟩
 case rest =>
  clear HC19
  try clear c1
  try clear p1
  try clear q1
  try clear hx1
  try clear c2
  try clear p2
  try clear p6
  try clear c7
  try clear c7b0
  try clear c7b1
  try clear c10
  try clear c10b0
  try clear c10b1
  try clear c11
  try clear c11b0
  try clear c11b1
  try clear c12
  try clear c12b0
  try clear c12b1
  try clear c12b2
  try clear c14
  try clear c14b0
  try clear c14b1
  try clear c15
  try clear c15b0
  try clear c15b1
  try clear c16
  try clear c16b0
  try clear c16b1
  try clear c16b2
  try clear c17
  try clear c17b0
  try clear p18
  try clear q18
  try clear hx18
  try clear c22
  try clear c22b0
  try clear c22b1
  try clear c23
  try clear c23b0
  try clear c24
  try clear c24b0
  try clear c25
  try clear c25b0
  try clear c26
  try clear c26b0
  try clear c27
  try clear c27b0
  try clear c27b1
  try clear c27b2
  try clear c28
  try clear p18
  try clear q18
  obtain ⟨kq,x9_18,rfl,HA,HJ18,HB⟩:=hcut
  cases kq with
  | zero=>exact absurd HA.out (by simp [numnahlaw01_CardTwice.j0])
  | succ kj18 =>
   have H:=HA.out
   clear HA
   simp only [numnahlaw01_CardTwice.j0] at H
   replace H:=Option.bind_eq_some_iff.mp H
   obtain ⟨⟨t403,t404⟩,A290,H⟩:=H
   replace H:((card_Sum.f kj18 x9_18).bind fun bt405=>((card_Sum.f kj18 t403).bind fun bt407=>((card_Measures.f kj18 t401).bind fun bt409=>(if t404 = 0 then (if bt405.2 = 0 then (if bt407.2 = 0 then (if bt409.2.2.2.2 = 0 then (if bt407.1.toList = t401.toList then (if (t403.size:Int) = (t401.size:Int) then (numnahlaw01_CardTwice.j1 kj18 t401 t402 t403 bt405.1 ((bt405.1.size:Int) != (t401.size:Int)) bt409.1 bt409.2.1 bt409.2.2.1 bt409.2.2.2.1) else (numnahlaw01_CardTwice.j1 kj18 t401 t402 t403 bt405.1 true bt409.1 bt409.2.1 bt409.2.2.1 bt409.2.2.2.1)) else (numnahlaw01_CardTwice.j1 kj18 t401 t402 t403 bt405.1 true bt409.1 bt409.2.1 bt409.2.2.1 bt409.2.2.2.1)) else (numnahlaw01_CardTwice.j1 kj18 t401 t402 t403 bt405.1 true bt409.1 bt409.2.1 bt409.2.2.1 bt409.2.2.2.1)) else (numnahlaw01_CardTwice.j1 kj18 t401 t402 t403 bt405.1 true bt409.1 bt409.2.1 bt409.2.2.1 bt409.2.2.2.1)) else (numnahlaw01_CardTwice.j1 kj18 t401 t402 t403 bt405.1 true bt409.1 bt409.2.1 bt409.2.2.1 bt409.2.2.2.1)) else (numnahlaw01_CardTwice.j1 kj18 t401 t402 t403 bt405.1 true bt409.1 bt409.2.1 bt409.2.2.1 bt409.2.2.2.1))))) = some r:=H
   have A29:=Aside0.mk A290
   clear A290
   replace H:=Option.bind_eq_some_iff.mp H
   obtain ⟨⟨t405,t406⟩,A300,H⟩:=H
   replace H:((card_Sum.f kj18 t403).bind fun bt407=>((card_Measures.f kj18 t401).bind fun bt409=>(if t404 = 0 then (if t406 = 0 then (if bt407.2 = 0 then (if bt409.2.2.2.2 = 0 then (if bt407.1.toList = t401.toList then (if (t403.size:Int) = (t401.size:Int) then (numnahlaw01_CardTwice.j1 kj18 t401 t402 t403 t405 ((t405.size:Int) != (t401.size:Int)) bt409.1 bt409.2.1 bt409.2.2.1 bt409.2.2.2.1) else (numnahlaw01_CardTwice.j1 kj18 t401 t402 t403 t405 true bt409.1 bt409.2.1 bt409.2.2.1 bt409.2.2.2.1)) else (numnahlaw01_CardTwice.j1 kj18 t401 t402 t403 t405 true bt409.1 bt409.2.1 bt409.2.2.1 bt409.2.2.2.1)) else (numnahlaw01_CardTwice.j1 kj18 t401 t402 t403 t405 true bt409.1 bt409.2.1 bt409.2.2.1 bt409.2.2.2.1)) else (numnahlaw01_CardTwice.j1 kj18 t401 t402 t403 t405 true bt409.1 bt409.2.1 bt409.2.2.1 bt409.2.2.2.1)) else (numnahlaw01_CardTwice.j1 kj18 t401 t402 t403 t405 true bt409.1 bt409.2.1 bt409.2.2.1 bt409.2.2.2.1)) else (numnahlaw01_CardTwice.j1 kj18 t401 t402 t403 t405 true bt409.1 bt409.2.1 bt409.2.2.1 bt409.2.2.2.1)))) = some r:=H
   have A30:=Aside0.mk A300
   clear A300
   replace H:=Option.bind_eq_some_iff.mp H
   obtain ⟨⟨t407,t408⟩,A310,H⟩:=H
   replace H:((card_Measures.f kj18 t401).bind fun bt409=>(if t404 = 0 then (if t406 = 0 then (if t408 = 0 then (if bt409.2.2.2.2 = 0 then (if t407.toList = t401.toList then (if (t403.size:Int) = (t401.size:Int) then (numnahlaw01_CardTwice.j1 kj18 t401 t402 t403 t405 ((t405.size:Int) != (t401.size:Int)) bt409.1 bt409.2.1 bt409.2.2.1 bt409.2.2.2.1) else (numnahlaw01_CardTwice.j1 kj18 t401 t402 t403 t405 true bt409.1 bt409.2.1 bt409.2.2.1 bt409.2.2.2.1)) else (numnahlaw01_CardTwice.j1 kj18 t401 t402 t403 t405 true bt409.1 bt409.2.1 bt409.2.2.1 bt409.2.2.2.1)) else (numnahlaw01_CardTwice.j1 kj18 t401 t402 t403 t405 true bt409.1 bt409.2.1 bt409.2.2.1 bt409.2.2.2.1)) else (numnahlaw01_CardTwice.j1 kj18 t401 t402 t403 t405 true bt409.1 bt409.2.1 bt409.2.2.1 bt409.2.2.2.1)) else (numnahlaw01_CardTwice.j1 kj18 t401 t402 t403 t405 true bt409.1 bt409.2.1 bt409.2.2.1 bt409.2.2.2.1)) else (numnahlaw01_CardTwice.j1 kj18 t401 t402 t403 t405 true bt409.1 bt409.2.1 bt409.2.2.1 bt409.2.2.2.1))) = some r:=H
   have A31:=Aside0.mk A310
   clear A310
   replace H:=Option.bind_eq_some_iff.mp H
   obtain ⟨⟨t409,t410,t411,t412,t413⟩,A320,H⟩:=H
   replace H:(if t404 = 0 then (if t406 = 0 then (if t408 = 0 then (if t413 = 0 then (if t407.toList = t401.toList then (if (t403.size:Int) = (t401.size:Int) then (numnahlaw01_CardTwice.j1 kj18 t401 t402 t403 t405 ((t405.size:Int) != (t401.size:Int)) t409 t410 t411 t412) else (numnahlaw01_CardTwice.j1 kj18 t401 t402 t403 t405 true t409 t410 t411 t412)) else (numnahlaw01_CardTwice.j1 kj18 t401 t402 t403 t405 true t409 t410 t411 t412)) else (numnahlaw01_CardTwice.j1 kj18 t401 t402 t403 t405 true t409 t410 t411 t412)) else (numnahlaw01_CardTwice.j1 kj18 t401 t402 t403 t405 true t409 t410 t411 t412)) else (numnahlaw01_CardTwice.j1 kj18 t401 t402 t403 t405 true t409 t410 t411 t412)) else (numnahlaw01_CardTwice.j1 kj18 t401 t402 t403 t405 true t409 t410 t411 t412)) = some r:=H
   have A32:=Aside0.mk A320
   clear A320
   have HC33:=Aside0.mk H
   clear H
   go_upto_region 11 with (first | ((with_reducible refine gate_callee (f:=48) rfl ?_);refine goesL_ (some 53) rfl rfl Try.func48 (by kernel_rfl) rfl #[.string t401] rfl gm_ ?_;(with_reducible refine (card_Sum.calls kj18 t401 t403 t404 _ A29.out).mono ?_);rintro e w34 ⟨rfl,hb⟩;refine ⟨_,rfl,?_⟩;have n0_:=Aside0.mk (below_step (by repeat (first | (with_reducible first | exact HB.out | apply below_alloc | apply pw_below_drewN | apply below_drew1) | exact HB.out)) hb);clear HB;have HB:=n0_;clear n0_;(try clear hb)) | ((with_reducible refine gate_callee (f:=48) rfl ?_);refine goesL_ (some 58) rfl rfl Try.func48 (by kernel_rfl) rfl #[.string x9_18] rfl gm_ ?_;(with_reducible refine (card_Sum.calls kj18 x9_18 t405 t406 _ A30.out).mono ?_);rintro e w35 ⟨rfl,hb⟩;refine ⟨_,rfl,?_⟩;have n0_:=Aside0.mk (below_step (by repeat (first | (with_reducible first | exact HB.out | apply below_alloc | apply pw_below_drewN | apply below_drew1) | exact HB.out)) hb);clear HB;have HB:=n0_;clear n0_;(try clear hb)) | ((with_reducible refine gate_callee (f:=48) rfl ?_);refine goesL_ (some 63) rfl rfl Try.func48 (by kernel_rfl) rfl #[.string t403] rfl gm_ ?_;(with_reducible refine (card_Sum.calls kj18 t403 t407 t408 _ A31.out).mono ?_);rintro e w36 ⟨rfl,hb⟩;refine ⟨_,rfl,?_⟩;have n0_:=Aside0.mk (below_step (by repeat (first | (with_reducible first | exact HB.out | apply below_alloc | apply pw_below_drewN | apply below_drew1) | exact HB.out)) hb);clear HB;have HB:=n0_;clear n0_;(try clear hb)) | ((with_reducible refine gate_callee (f:=49) rfl ?_);refine goesL_ (some 68) rfl rfl Try.func49 (by kernel_rfl) rfl #[.string t401] rfl gm_ ?_;(with_reducible refine (card_Measures.calls kj18 t401 t409 t410 t411 t412 t413 _ A32.out).mono ?_);rintro e w37 ⟨rfl,hb⟩;refine ⟨_,rfl,?_⟩;have n0_:=Aside0.mk (below_step (by repeat (first | (with_reducible first | exact HB.out | apply below_alloc | apply pw_below_drewN | apply below_drew1) | exact HB.out)) hb);clear HB;have HB:=n0_;clear n0_;(try clear hb)) | ((with_reducible refine gate_dst (N:=16) rfl ?_);(try (refine gate_guard (by rfl) ?_;dsimp only));refine box_event ?hg (N:=16) ?hd (cs:=#[.int .i64 0,.int .i64 0,.int .i64 0,.int .i64 0]) (t:=65) ?hr ?_;(case hd=>rfl);(case hg=>rfl);(case hr=>first | (go_simp;done) | (go_simp;rfl));intro gb414 hg w38 hbox hb;have n0_:=Aside0.mk (below_step (by repeat (first | (with_reducible first | exact HB.out | apply below_alloc | apply pw_below_drewN | apply below_drew1) | exact HB.out)) hb);have n1_:=Aside0.mk (hbox);have n2_:=Aside0.mk ((by rw [hg];exact (below_size (by repeat (first | (with_reducible first | exact HB.out | apply below_alloc | apply pw_below_drewN | apply below_drew1) | exact HB.out))):w.heap.size ≤ gb414));have n3_:=Aside0.mk ((by rw [hg];exact (below_size (by repeat (first | (with_reducible first | exact HB.out | apply below_alloc | apply pw_below_drewN | apply below_drew1) | exact HB.out))):w.heap.size ≤ gb414));clear HB;have HB:=n0_;have BK414:=n1_;have GW414:=n2_;have GE414:=n3_;clear n0_ n1_ n2_ n3_;clear hb hbox hg;have hcz39_0:w38.cell? ⟨gb414,0,none⟩ = some (.int .i64 0):=(blk_cell BK414.out 0).trans rfl;have hcz39_1:w38.cell? ⟨gb414,1,none⟩ = some (.int .i64 0):=(blk_cell BK414.out 1).trans rfl;have hcz39_2:w38.cell? ⟨gb414,2,none⟩ = some (.int .i64 0):=(blk_cell BK414.out 2).trans rfl;have hcz39_3:w38.cell? ⟨gb414,3,none⟩ = some (.int .i64 0):=(blk_cell BK414.out 3).trans rfl;have hfz39_0:=blk_frozen BK414.out 0;have hfz39_1:=blk_frozen BK414.out 1;have hfz39_2:=blk_frozen BK414.out 2;have hfz39_3:=blk_frozen BK414.out 3))
   (try simp only [Act.put,List.setIfInBounds_toArray,List.set_cons_zero,List.set_cons_succ])
   go_cut [103] (fun v103 wc=>∃ (kq:Nat) (x103_32:Bool),v103 = .bool x103_32 ∧ Aside0 (numnahlaw01_CardTwice.j1 kq t401 t402 t403 t405 x103_32 t409 t410 t411 t412 = some r) ∧ Aside0 (kq ≤ kj18) ∧ Aside0 (wc.heap[gb414]? = some (.cells #[.int .i64 t409,.int .i64 t410,.int .i64 t411,.int .i64 t412] 65 (0,0))) ∧ Aside0 (Below w.heap.size w wc))
   case first =>
    have H:=HC33.out
    clear HC33
    by_cases c40:t404 = 0
    case neg =>
     rw [if_neg c40] at H
     have c40b0:(t404 == 0) = false:=beq_eq_false_iff_ne.mpr c40
     have c40b1:(t404 != 0) = true:=bne_iff_ne.mpr c40
     (first | rw [c40b0] | (simp only [i64_w,i32_w];rw [c40b0]) | skip)
     have H':=Aside0.mk H
     clear H
     go_wp2
     go_meet
     case rel=>exact ⟨_,(true),(by first | rfl | (simp;done) | (simp [*];done)),H',⟨by have:=HJ18.out;first | omega | exact Nat.le_refl _⟩,⟨by (with_reducible repeat (first | refine blk_drewN ?_ _ | refine blk_drew ?_ | refine blk_alloc ?_ _));refine blk_put (cs:=#[.int .i64 t409,.int .i64 t410,.int .i64 t411,.int .i64 0]) ?_ 3 _ rfl;(with_reducible repeat (first | refine blk_drewN ?_ _ | refine blk_drew ?_ | refine blk_alloc ?_ _));refine blk_put (cs:=#[.int .i64 t409,.int .i64 t410,.int .i64 0,.int .i64 0]) ?_ 2 _ rfl;(with_reducible repeat (first | refine blk_drewN ?_ _ | refine blk_drew ?_ | refine blk_alloc ?_ _));refine blk_put (cs:=#[.int .i64 t409,.int .i64 0,.int .i64 0,.int .i64 0]) ?_ 1 _ rfl;(with_reducible repeat (first | refine blk_drewN ?_ _ | refine blk_drew ?_ | refine blk_alloc ?_ _));refine blk_put (cs:=#[.int .i64 0,.int .i64 0,.int .i64 0,.int .i64 0]) ?_ 0 _ rfl;(with_reducible repeat (first | refine blk_drewN ?_ _ | refine blk_drew ?_ | refine blk_alloc ?_ _));exact BK414.out⟩,⟨by repeat (first | (with_reducible first | exact HB.out | apply below_alloc | apply pw_below_drewN | apply below_drew1 | refine below_set ?_ GE414.out) | exact HB.out)⟩⟩
    rw [if_pos c40] at H
    have c40b0:(t404 == 0) = true:=beq_iff_eq.mpr c40
    have c40b1:(t404 != 0) = false:=bne_eq_false_iff_eq.mpr c40
    clear c40
    (first | rw [c40b0] | (simp only [i64_w,i32_w];rw [c40b0]) | skip)
    by_cases c41:t406 = 0
    case neg =>
     rw [if_neg c41] at H
     have c41b0:(t406 == 0) = false:=beq_eq_false_iff_ne.mpr c41
     have c41b1:(t406 != 0) = true:=bne_iff_ne.mpr c41
     have H':=Aside0.mk H
     clear H
     go_wp2
     go_meet
     case rel=>exact ⟨_,(true),(by first | rfl | (simp;done) | (simp [*];done)),H',⟨by have:=HJ18.out;first | omega | exact Nat.le_refl _⟩,⟨by (with_reducible repeat (first | refine blk_drewN ?_ _ | refine blk_drew ?_ | refine blk_alloc ?_ _));refine blk_put (cs:=#[.int .i64 t409,.int .i64 t410,.int .i64 t411,.int .i64 0]) ?_ 3 _ rfl;(with_reducible repeat (first | refine blk_drewN ?_ _ | refine blk_drew ?_ | refine blk_alloc ?_ _));refine blk_put (cs:=#[.int .i64 t409,.int .i64 t410,.int .i64 0,.int .i64 0]) ?_ 2 _ rfl;(with_reducible repeat (first | refine blk_drewN ?_ _ | refine blk_drew ?_ | refine blk_alloc ?_ _));refine blk_put (cs:=#[.int .i64 t409,.int .i64 0,.int .i64 0,.int .i64 0]) ?_ 1 _ rfl;(with_reducible repeat (first | refine blk_drewN ?_ _ | refine blk_drew ?_ | refine blk_alloc ?_ _));refine blk_put (cs:=#[.int .i64 0,.int .i64 0,.int .i64 0,.int .i64 0]) ?_ 0 _ rfl;(with_reducible repeat (first | refine blk_drewN ?_ _ | refine blk_drew ?_ | refine blk_alloc ?_ _));exact BK414.out⟩,⟨by repeat (first | (with_reducible first | exact HB.out | apply below_alloc | apply pw_below_drewN | apply below_drew1 | refine below_set ?_ GE414.out) | exact HB.out)⟩⟩
    rw [if_pos c41] at H
    have c41b0:(t406 == 0) = true:=beq_iff_eq.mpr c41
    have c41b1:(t406 != 0) = false:=bne_eq_false_iff_eq.mpr c41
    clear c41
    by_cases c42:t408 = 0
    case neg =>
     rw [if_neg c42] at H
     have c42b0:(t408 == 0) = false:=beq_eq_false_iff_ne.mpr c42
     have c42b1:(t408 != 0) = true:=bne_iff_ne.mpr c42
     have H':=Aside0.mk H
     clear H
     go_wp2
     go_meet
     case rel=>exact ⟨_,(true),(by first | rfl | (simp;done) | (simp [*];done)),H',⟨by have:=HJ18.out;first | omega | exact Nat.le_refl _⟩,⟨by (with_reducible repeat (first | refine blk_drewN ?_ _ | refine blk_drew ?_ | refine blk_alloc ?_ _));refine blk_put (cs:=#[.int .i64 t409,.int .i64 t410,.int .i64 t411,.int .i64 0]) ?_ 3 _ rfl;(with_reducible repeat (first | refine blk_drewN ?_ _ | refine blk_drew ?_ | refine blk_alloc ?_ _));refine blk_put (cs:=#[.int .i64 t409,.int .i64 t410,.int .i64 0,.int .i64 0]) ?_ 2 _ rfl;(with_reducible repeat (first | refine blk_drewN ?_ _ | refine blk_drew ?_ | refine blk_alloc ?_ _));refine blk_put (cs:=#[.int .i64 t409,.int .i64 0,.int .i64 0,.int .i64 0]) ?_ 1 _ rfl;(with_reducible repeat (first | refine blk_drewN ?_ _ | refine blk_drew ?_ | refine blk_alloc ?_ _));refine blk_put (cs:=#[.int .i64 0,.int .i64 0,.int .i64 0,.int .i64 0]) ?_ 0 _ rfl;(with_reducible repeat (first | refine blk_drewN ?_ _ | refine blk_drew ?_ | refine blk_alloc ?_ _));exact BK414.out⟩,⟨by repeat (first | (with_reducible first | exact HB.out | apply below_alloc | apply pw_below_drewN | apply below_drew1 | refine below_set ?_ GE414.out) | exact HB.out)⟩⟩
    rw [if_pos c42] at H
    have c42b0:(t408 == 0) = true:=beq_iff_eq.mpr c42
    have c42b1:(t408 != 0) = false:=bne_eq_false_iff_eq.mpr c42
    clear c42
    by_cases c43:t413 = 0
    case neg =>
     rw [if_neg c43] at H
     have c43b0:(t413 == 0) = false:=beq_eq_false_iff_ne.mpr c43
     have c43b1:(t413 != 0) = true:=bne_iff_ne.mpr c43
     have H':=Aside0.mk H
     clear H
     go_wp2
     go_meet
     case rel=>exact ⟨_,(true),(by first | rfl | (simp;done) | (simp [*];done)),H',⟨by have:=HJ18.out;first | omega | exact Nat.le_refl _⟩,⟨by (with_reducible repeat (first | refine blk_drewN ?_ _ | refine blk_drew ?_ | refine blk_alloc ?_ _));refine blk_put (cs:=#[.int .i64 t409,.int .i64 t410,.int .i64 t411,.int .i64 0]) ?_ 3 _ rfl;(with_reducible repeat (first | refine blk_drewN ?_ _ | refine blk_drew ?_ | refine blk_alloc ?_ _));refine blk_put (cs:=#[.int .i64 t409,.int .i64 t410,.int .i64 0,.int .i64 0]) ?_ 2 _ rfl;(with_reducible repeat (first | refine blk_drewN ?_ _ | refine blk_drew ?_ | refine blk_alloc ?_ _));refine blk_put (cs:=#[.int .i64 t409,.int .i64 0,.int .i64 0,.int .i64 0]) ?_ 1 _ rfl;(with_reducible repeat (first | refine blk_drewN ?_ _ | refine blk_drew ?_ | refine blk_alloc ?_ _));refine blk_put (cs:=#[.int .i64 0,.int .i64 0,.int .i64 0,.int .i64 0]) ?_ 0 _ rfl;(with_reducible repeat (first | refine blk_drewN ?_ _ | refine blk_drew ?_ | refine blk_alloc ?_ _));exact BK414.out⟩,⟨by repeat (first | (with_reducible first | exact HB.out | apply below_alloc | apply pw_below_drewN | apply below_drew1 | refine below_set ?_ GE414.out) | exact HB.out)⟩⟩
    rw [if_pos c43] at H
    have c43b0:(t413 == 0) = true:=beq_iff_eq.mpr c43
    have c43b1:(t413 != 0) = false:=bne_eq_false_iff_eq.mpr c43
    clear c43
    by_cases c44:t407.toList = t401.toList
    case neg =>
     rw [if_neg c44] at H
     have c44b0:(t407.toList == t401.toList) = false:=beq_eq_false_iff_ne.mpr c44
     have c44b1:(t407.toList != t401.toList) = true:=bne_iff_ne.mpr c44
     have H':=Aside0.mk H
     clear H
     go_wp2
     go_meet
     case rel=>exact ⟨_,(true),(by first | rfl | (simp;done) | (simp [*];done)),H',⟨by have:=HJ18.out;first | omega | exact Nat.le_refl _⟩,⟨by (with_reducible repeat (first | refine blk_drewN ?_ _ | refine blk_drew ?_ | refine blk_alloc ?_ _));refine blk_put (cs:=#[.int .i64 t409,.int .i64 t410,.int .i64 t411,.int .i64 0]) ?_ 3 _ rfl;(with_reducible repeat (first | refine blk_drewN ?_ _ | refine blk_drew ?_ | refine blk_alloc ?_ _));refine blk_put (cs:=#[.int .i64 t409,.int .i64 t410,.int .i64 0,.int .i64 0]) ?_ 2 _ rfl;(with_reducible repeat (first | refine blk_drewN ?_ _ | refine blk_drew ?_ | refine blk_alloc ?_ _));refine blk_put (cs:=#[.int .i64 t409,.int .i64 0,.int .i64 0,.int .i64 0]) ?_ 1 _ rfl;(with_reducible repeat (first | refine blk_drewN ?_ _ | refine blk_drew ?_ | refine blk_alloc ?_ _));refine blk_put (cs:=#[.int .i64 0,.int .i64 0,.int .i64 0,.int .i64 0]) ?_ 0 _ rfl;(with_reducible repeat (first | refine blk_drewN ?_ _ | refine blk_drew ?_ | refine blk_alloc ?_ _));exact BK414.out⟩,⟨by repeat (first | (with_reducible first | exact HB.out | apply below_alloc | apply pw_below_drewN | apply below_drew1 | refine below_set ?_ GE414.out) | exact HB.out)⟩⟩
    rw [if_pos c44] at H
    have c44b0:(t407.toList == t401.toList) = true:=beq_iff_eq.mpr c44
    have c44b1:(t407.toList != t401.toList) = false:=bne_eq_false_iff_eq.mpr c44
    clear c44
    by_cases c45:(t403.size:Int) = (t401.size:Int)
    case neg =>
     rw [if_neg c45] at H
     have c45b0:((t403.size:Int) == (t401.size:Int)) = false:=beq_eq_false_iff_ne.mpr c45
     have c45b1:((t403.size:Int) != (t401.size:Int)) = true:=bne_iff_ne.mpr c45
     have c45b2:(t403.size == t401.size) = false:=by first | simpa using c45 | (simp at c45 ⊢;omega)
     have H':=Aside0.mk H
     clear H
     go_wp2
     go_meet
     case rel=>exact ⟨_,(true),(by first | rfl | (simp;done) | (simp [*];done)),H',⟨by have:=HJ18.out;first | omega | exact Nat.le_refl _⟩,⟨by (with_reducible repeat (first | refine blk_drewN ?_ _ | refine blk_drew ?_ | refine blk_alloc ?_ _));refine blk_put (cs:=#[.int .i64 t409,.int .i64 t410,.int .i64 t411,.int .i64 0]) ?_ 3 _ rfl;(with_reducible repeat (first | refine blk_drewN ?_ _ | refine blk_drew ?_ | refine blk_alloc ?_ _));refine blk_put (cs:=#[.int .i64 t409,.int .i64 t410,.int .i64 0,.int .i64 0]) ?_ 2 _ rfl;(with_reducible repeat (first | refine blk_drewN ?_ _ | refine blk_drew ?_ | refine blk_alloc ?_ _));refine blk_put (cs:=#[.int .i64 t409,.int .i64 0,.int .i64 0,.int .i64 0]) ?_ 1 _ rfl;(with_reducible repeat (first | refine blk_drewN ?_ _ | refine blk_drew ?_ | refine blk_alloc ?_ _));refine blk_put (cs:=#[.int .i64 0,.int .i64 0,.int .i64 0,.int .i64 0]) ?_ 0 _ rfl;(with_reducible repeat (first | refine blk_drewN ?_ _ | refine blk_drew ?_ | refine blk_alloc ?_ _));exact BK414.out⟩,⟨by repeat (first | (with_reducible first | exact HB.out | apply below_alloc | apply pw_below_drewN | apply below_drew1 | refine below_set ?_ GE414.out) | exact HB.out)⟩⟩
    rw [if_pos c45] at H
    have c45b0:((t403.size:Int) == (t401.size:Int)) = true:=beq_iff_eq.mpr c45
    have c45b1:((t403.size:Int) != (t401.size:Int)) = false:=bne_eq_false_iff_eq.mpr c45
    have c45b2:(t403.size == t401.size) = true:=by first | simpa using c45 | (simp at c45 ⊢;omega)
    clear c45
    have H':=Aside0.mk H
    clear H
    go_wp2
    go_meet
    case rel=>exact ⟨_,(((t405.size:Int) != (t401.size:Int))),(by first | rfl | (simp;done) | (simp [*];done)),H',⟨by have:=HJ18.out;first | omega | exact Nat.le_refl _⟩,⟨by (with_reducible repeat (first | refine blk_drewN ?_ _ | refine blk_drew ?_ | refine blk_alloc ?_ _));refine blk_put (cs:=#[.int .i64 t409,.int .i64 t410,.int .i64 t411,.int .i64 0]) ?_ 3 _ rfl;(with_reducible repeat (first | refine blk_drewN ?_ _ | refine blk_drew ?_ | refine blk_alloc ?_ _));refine blk_put (cs:=#[.int .i64 t409,.int .i64 t410,.int .i64 0,.int .i64 0]) ?_ 2 _ rfl;(with_reducible repeat (first | refine blk_drewN ?_ _ | refine blk_drew ?_ | refine blk_alloc ?_ _));refine blk_put (cs:=#[.int .i64 t409,.int .i64 0,.int .i64 0,.int .i64 0]) ?_ 1 _ rfl;(with_reducible repeat (first | refine blk_drewN ?_ _ | refine blk_drew ?_ | refine blk_alloc ?_ _));refine blk_put (cs:=#[.int .i64 0,.int .i64 0,.int .i64 0,.int .i64 0]) ?_ 0 _ rfl;(with_reducible repeat (first | refine blk_drewN ?_ _ | refine blk_drew ?_ | refine blk_alloc ?_ _));exact BK414.out⟩,⟨by repeat (first | (with_reducible first | exact HB.out | apply below_alloc | apply pw_below_drewN | apply below_drew1 | refine below_set ?_ GE414.out) | exact HB.out)⟩⟩
   case rest =>
    clear HC33
    try clear c1
    try clear p1
    try clear q1
    try clear hx1
    try clear c2
    try clear p2
    try clear c4
    try clear p6
    try clear c7
    try clear c7b0
    try clear c7b1
    try clear c10
    try clear c10b0
    try clear c10b1
    try clear c11
    try clear c11b0
    try clear c11b1
    try clear c12
    try clear c12b0
    try clear c12b1
    try clear c12b2
    try clear c14
    try clear c14b0
    try clear c14b1
    try clear c15
    try clear c15b0
    try clear c15b1
    try clear c16
    try clear c16b0
    try clear c16b1
    try clear c16b2
    try clear c17
    try clear c17b0
    try clear p18
    try clear q18
    try clear hx18
    try clear c22
    try clear c22b0
    try clear c22b1
    try clear c23
    try clear c23b0
    try clear c24
    try clear c24b0
    try clear c25
    try clear c25b0
    try clear c26
    try clear c26b0
    try clear c27
    try clear c27b0
    try clear c27b1
    try clear c27b2
    try clear c28
    try clear c40
    try clear c40b0
    try clear c40b1
    try clear c41
    try clear c41b0
    try clear c41b1
    try clear c42
    try clear c42b0
    try clear c42b1
    try clear c43
    try clear c43b0
    try clear c43b1
    try clear c44
    try clear c44b0
    try clear c44b1
    try clear c45
    try clear c45b0
    try clear c45b1
    try clear c45b2
    try clear hcz39_0
    try clear hcz39_1
    try clear hcz39_2
    try clear hcz39_3
    try clear hfz39_0
    try clear hfz39_1
    try clear hfz39_2
    try clear hfz39_3
    try clear p1
    try clear p18
    try clear p2
    try clear p6
    try clear q1
    try clear q18
    obtain ⟨kq,x103_32,rfl,HA,HJ32,BK414,HB⟩:=hcut
    cases kq with
    | zero=>exact absurd HA.out (by simp [numnahlaw01_CardTwice.j1])
    | succ kj32 =>
     have H:=HA.out
     clear HA
     simp only [numnahlaw01_CardTwice.j1] at H
     by_cases c46:x103_32 = true
     ·subst c46
      have H1:(some false) = some r:=by rw [if_pos rfl] at H;exact H
      clear H
      have H:=H1
      clear H1
      obtain rfl:=Option.some.inj H
      go_wp2
      go_ret
      exact ⟨by first | rfl | (simp [errW_none,errW_some] <;> rfl) | (simp only [← hji6,← hji8,← hji13];first | rfl | (simp [errW_none,errW_some] <;> rfl)) | (simp [*,errW_none,errW_some] <;> rfl),by repeat (first | (with_reducible first | exact HB.out | apply below_alloc | apply pw_below_drewN | apply below_drew1 | refine below_set ?_ GE414.out) | exact HB.out)⟩
     replace c46:=Bool.eq_false_iff.mpr c46
     subst c46
     have H1:(numnahlaw01_CardTwice.l0 kj32 t401 t402 t403 t405 0 t409 t410 t411 t412) = some r:=by rw [if_neg (show ¬ (false = true) by decide)] at H;exact H
     clear H
     have H:=H1
     clear H1
     have H':=Aside0.mk H
     clear H
     go_wp2
     go_loopg [18] kj32 (fun kq v18 w'=>∃ (x18_3:Int),v18 = .int .i64 x18_3 ∧ Aside0 (numnahlaw01_CardTwice.l0 kq t401 t402 t403 t405 x18_3 t409 t410 t411 t412 = some r) ∧ Aside0 (kq ≤ kj32) ∧ Aside0 (w'.heap[gb414]? = some (.cells #[.int .i64 t409,.int .i64 t410,.int .i64 t411,.int .i64 t412] 65 (0,0))) ∧ Aside0 (Below w.heap.size w w'))
     case atStart=>exact ⟨(0),(by first | rfl | (simp;done) | (simp [*];done)),H',⟨Nat.le_refl _⟩,⟨by (with_reducible repeat (first | refine blk_drewN ?_ _ | refine blk_drew ?_ | refine blk_alloc ?_ _));exact BK414.out⟩,⟨by repeat (first | (with_reducible first | exact HB.out | apply below_alloc | apply pw_below_drewN | apply below_drew1 | refine below_set ?_ GE414.out) | exact HB.out)⟩⟩
     case round =>
      clear H'
      try clear c1
      try clear p1
      try clear q1
      try clear hx1
      try clear c2
      try clear p2
      try clear c4
      try clear p6
      try clear c7
      try clear c7b0
      try clear c7b1
      try clear c10
      try clear c10b0
      try clear c10b1
      try clear c11
      try clear c11b0
      try clear c11b1
      try clear c12
      try clear c12b0
      try clear c12b1
      try clear c12b2
      try clear c14
      try clear c14b0
      try clear c14b1
      try clear c15
      try clear c15b0
      try clear c15b1
      try clear c16
      try clear c16b0
      try clear c16b1
      try clear c16b2
      try clear c17
      try clear c17b0
      try clear p18
      try clear q18
      try clear hx18
      try clear c22
      try clear c22b0
      try clear c22b1
      try clear c23
      try clear c23b0
      try clear c24
      try clear c24b0
      try clear c25
      try clear c25b0
      try clear c26
      try clear c26b0
      try clear c27
      try clear c27b0
      try clear c27b1
      try clear c27b2
      try clear c28
      try clear c40
      try clear c40b0
      try clear c40b1
      try clear c41
      try clear c41b0
      try clear c41b1
      try clear c42
      try clear c42b0
      try clear c42b1
      try clear c43
      try clear c43b0
      try clear c43b1
      try clear c44
      try clear c44b0
      try clear c44b1
      try clear c45
      try clear c45b0
      try clear c45b1
      try clear c45b2
      try clear c46
      try clear hcz39_0
      try clear hcz39_1
      try clear hcz39_2
      try clear hcz39_3
      try clear hfz39_0
      try clear hfz39_1
      try clear hfz39_2
      try clear hfz39_3
      try clear p1
      try clear p18
      try clear p2
      try clear p6
      try clear q1
      try clear q18
      obtain ⟨x18_3,rfl,HA,HK3,BK414,HB⟩:=hrel
      cases gk with
      | zero=>exact absurd HA.out (by simp [numnahlaw01_CardTwice.l0])
      | succ k3 =>
       have H:=HA.out
       clear HA
       simp only [numnahlaw01_CardTwice.l0] at H
       by_cases c47:x18_3 < (t401.size:Int)
       ·rw [if_pos c47] at H
        have c47b0:decide (x18_3 < (t401.size:Int)) = true:=decide_eq_true c47
        clear c47
        by_cases c48:0 ≤ x18_3
        case neg =>
         rw [if_neg c48] at H
         exact absurd H (by simp)
        rw [if_pos c48] at H
        have c48b0:decide (0 ≤ x18_3) = true:=decide_eq_true c48
        clear c48
        by_cases c49:x18_3 < (t403.size:Int)
        case neg =>
         rw [if_neg c49] at H
         exact absurd H (by simp)
        rw [if_pos c49] at H
        have c49b0:decide (x18_3 < (t403.size:Int)) = true:=decide_eq_true c49
        clear c49
        by_cases c51:x18_3 < (t405.size:Int)
        case neg =>
         rw [if_neg c51] at H
         exact absurd H (by simp)
        rw [if_pos c51] at H
        have c51b0:decide (x18_3 < (t405.size:Int)) = true:=decide_eq_true c51
        clear c51
        by_cases c53:(((bt t403 x18_3) != (bt t405 x18_3)) != ((Go.bits .andNot .i64 t402 x18_3) == 0)) = true
        ·rw [if_pos c53] at H
         have c53b0:(((bt t403 x18_3) != (bt t405 x18_3)) != ((Go.bits .andNot .i64 t402 x18_3) == 0)) = true:=c53
         (try (have c53b1:decide (((bt t403 x18_3) != (bt t405 x18_3)) = ((Go.bits .andNot .i64 t402 x18_3) == 0)) = false:=by simpa using c53))
         (try (have c53b2:(((bt t403 x18_3) != (bt t405 x18_3)) == ((Go.bits .andNot .i64 t402 x18_3) == 0)) = false:=by simpa using c53))
         (try (have c53b3:¬ (((bt t403 x18_3) != (bt t405 x18_3)) = ((Go.bits .andNot .i64 t402 x18_3) == 0)):=by simpa using c53))
         clear c53
         obtain rfl:=Option.some.inj H
         try go_wp2
         have n0_:=Aside0.mk (blk_drew BK414.out)
         have n1_:=Aside0.mk (below_drew1 HB.out)
         clear BK414
         clear HB
         have BK414:=n0_
         have HB:=n1_
         clear n0_ n1_
         have p50:0 ≤ (x18_3:Int):=of_decide_eq_true (by first | (with_reducible assumption) | assumption)
         have q50:x18_3 < (t403.size:Int):=of_decide_eq_true (by first | (with_reducible assumption) | assumption)
         have hx50:=bt_at t403 x18_3
         replace p50:=eq_true p50
         replace q50:=eq_true q50
         have p52:0 ≤ (x18_3:Int):=of_decide_eq_true (by first | (with_reducible assumption) | assumption)
         have q52:x18_3 < (t405.size:Int):=of_decide_eq_true (by first | (with_reducible assumption) | assumption)
         have hx52:=bt_at t405 x18_3
         replace p52:=eq_true p52
         replace q52:=eq_true q52
         refine start_ (n:=12) (S:=fun w'=>True) (ds:=[]) #[false,false,false,false,false,false,false,false,false,false,false,false] (by kernel_rfl) rfl rfl trivial (fun hHeld=>?_);refine with_tabW numnahlaw01_CardTwice.tab16 numnahlaw01_CardTwice.bits16 (fun HT_ HW_=>?_)
         generalize wr.drew = w54 at BK414 HB hHeld ⊢
         refine pure_ (i:=0) (N:=some 110) (v:=?_) (a':=?_) #[true,false,false,false,false,false,false,false,false,false,false,false] rfl rfl (any_of HT_.out (by kernel_rfl)) (fun _ _ _ h=>h) (Or.inl ⟨by rfl,?_⟩) ?_ ?_
         rotate_left
         ·intro w'
          go_simp
          with_reducible rfl
         rotate_left
         ·simp only [Act.put,List.setIfInBounds_toArray,List.set_cons_zero,List.set_cons_succ,i64_w,i32_w]
          rfl
         refine pure_ (i:=1) (N:=some 111) (v:=?_) (a':=?_) #[true,true,false,false,false,false,false,false,false,false,false,false] rfl rfl (any_of HT_.out (by kernel_rfl)) (fun _ _ _ h=>h) (Or.inl ⟨by rfl,?_⟩) ?_ ?_
         rotate_left
         ·intro w'
          go_simp
          with_reducible rfl
         rotate_left
         ·simp only [Act.put,List.setIfInBounds_toArray,List.set_cons_zero,List.set_cons_succ,i64_w,i32_w]
          rfl
         refine pure_ (i:=3) (N:=some 113) (v:=?_) (a':=?_) #[true,true,false,true,false,false,false,false,false,false,false,false] rfl rfl (any_of HT_.out (by kernel_rfl)) (fun _ _ _ h=>h) (Or.inl ⟨by rfl,?_⟩) ?_ ?_
         rotate_left
         ·intro w'
          go_simp
          with_reducible rfl
         rotate_left
         ·simp only [Act.put,List.setIfInBounds_toArray,List.set_cons_zero,List.set_cons_succ,i64_w,i32_w]
          rfl
         refine pure_ (i:=4) (N:=some 114) (v:=?_) (a':=?_) #[true,true,false,true,true,false,false,false,false,false,false,false] rfl rfl (any_of HT_.out (by kernel_rfl)) (fun _ _ _ h=>h) (Or.inl ⟨by rfl,?_⟩) ?_ ?_
         rotate_left
         ·intro w'
          go_simp
          with_reducible rfl
         rotate_left
         ·simp only [Act.put,List.setIfInBounds_toArray,List.set_cons_zero,List.set_cons_succ,i64_w,i32_w]
          rfl
         refine pure_ (i:=7) (N:=some 117) (v:=?_) (a':=?_) #[true,true,false,true,true,false,false,true,false,false,false,false] rfl rfl (any_of HT_.out (by kernel_rfl)) (fun _ _ _ h=>h) (Or.inl ⟨by rfl,?_⟩) ?_ ?_
         rotate_left
         ·intro w'
          go_simp
          with_reducible rfl
         rotate_left
         ·simp only [Act.put,List.setIfInBounds_toArray,List.set_cons_zero,List.set_cons_succ,i64_w,i32_w]
          rfl
         refine pure_ (i:=8) (N:=some 118) (v:=?_) (a':=?_) #[true,true,false,true,true,false,false,true,true,false,false,false] rfl rfl (any_of HT_.out (by kernel_rfl)) (fun _ _ _ h=>h) (Or.inl ⟨by rfl,?_⟩) ?_ ?_
         rotate_left
         ·intro w'
          go_simp
          with_reducible rfl
         rotate_left
         ·simp only [Act.put,List.setIfInBounds_toArray,List.set_cons_zero,List.set_cons_succ,i64_w,i32_w]
          rfl
         refine pure_ (i:=9) (N:=some 119) (v:=?_) (a':=?_) #[true,true,false,true,true,false,false,true,true,true,false,false] rfl rfl (any_of HT_.out (by kernel_rfl)) (fun _ _ _ h=>h) (Or.inl ⟨by rfl,?_⟩) ?_ ?_
         rotate_left
         ·intro w'
          go_simp
          with_reducible rfl
         rotate_left
         ·simp only [Act.put,List.setIfInBounds_toArray,List.set_cons_zero,List.set_cons_succ,i64_w,i32_w]
          rfl
         refine pure_ (i:=10) (N:=some 120) (v:=?_) (a':=?_) #[true,true,false,true,true,false,false,true,true,true,true,false] rfl rfl (any_of HT_.out (by kernel_rfl)) (fun _ _ _ h=>h) (Or.inl ⟨by rfl,?_⟩) ?_ ?_
         rotate_left
         ·intro w'
          go_simp
          with_reducible rfl
         rotate_left
         ·simp only [Act.put,List.setIfInBounds_toArray,List.set_cons_zero,List.set_cons_succ,i64_w,i32_w]
          rfl
         refine take_ (i:=2) (N:=some 112) (v:=?_) (a':=?_) #[true,true,true,true,true,false,false,true,true,true,true,false] rfl rfl (take_ofW HT_.out HW_.out (by kernel_rfl)) (fun _ _ _ h=>h) (Or.inl ⟨by rfl,?_⟩) hHeld ?_ ?_
         rotate_left
         ·intro w' _
          go_simp
          with_reducible rfl
         rotate_left
         ·simp only [Act.put,List.setIfInBounds_toArray,List.set_cons_zero,List.set_cons_succ,i64_w,i32_w]
          rfl
         refine take_ (i:=5) (N:=some 115) (v:=?_) (a':=?_) #[true,true,true,true,true,true,false,true,true,true,true,false] rfl rfl (take_ofW HT_.out HW_.out (by kernel_rfl)) (fun _ _ _ h=>h) (Or.inl ⟨by rfl,?_⟩) hHeld ?_ ?_
         rotate_left
         ·intro w' _
          go_simp
          with_reducible rfl
         rotate_left
         ·simp only [Act.put,List.setIfInBounds_toArray,List.set_cons_zero,List.set_cons_succ,i64_w,i32_w]
          rfl
         refine pure_ (i:=6) (N:=some 116) (v:=?_) (a':=?_) #[true,true,true,true,true,true,true,true,true,true,true,false] rfl rfl (any_of HT_.out (by kernel_rfl)) (fun _ _ _ h=>h) (Or.inl ⟨by rfl,?_⟩) ?_ ?_
         rotate_left
         ·intro w'
          go_simp
          with_reducible rfl
         rotate_left
         ·simp only [Act.put,List.setIfInBounds_toArray,List.set_cons_zero,List.set_cons_succ,i64_w,i32_w]
          rfl
         refine pure_ (i:=11) (N:=some 121) (v:=?_) (a':=?_) #[true,true,true,true,true,true,true,true,true,true,true,true] rfl rfl (any_of HT_.out (by kernel_rfl)) (fun _ _ _ h=>h) (Or.inl ⟨by rfl,?_⟩) ?_ ?_
         rotate_left
         ·intro w'
          go_simp
          with_reducible rfl
         rotate_left
         ·simp only [Act.put,List.setIfInBounds_toArray,List.set_cons_zero,List.set_cons_succ,i64_w,i32_w]
          rfl
         refine done_ (done_of HT_.out (by kernel_rfl)) ?_
         try go_wp2
         go_ret
         exact ⟨by first | rfl | (simp [errW_none,errW_some] <;> rfl) | (simp only [← hji6,← hji8,← hji13];first | rfl | (simp [errW_none,errW_some] <;> rfl)) | (simp [*,errW_none,errW_some] <;> rfl),by repeat (first | (with_reducible first | exact HB.out | apply below_alloc | apply pw_below_drewN | apply below_drew1 | refine below_set ?_ GE414.out) | exact HB.out)⟩
        rw [if_neg c53] at H
        have c53b0:(((bt t403 x18_3) != (bt t405 x18_3)) != ((Go.bits .andNot .i64 t402 x18_3) == 0)) = false:=by simpa using c53
        (try (have c53b1:decide (((bt t403 x18_3) != (bt t405 x18_3)) = ((Go.bits .andNot .i64 t402 x18_3) == 0)) = true:=by simpa using c53))
        (try (have c53b2:(((bt t403 x18_3) != (bt t405 x18_3)) == ((Go.bits .andNot .i64 t402 x18_3) == 0)) = true:=by simpa using c53))
        clear c53
        have H':=Aside0.mk H
        clear H
        try go_wp2
        have n0_:=Aside0.mk (blk_drew BK414.out)
        have n1_:=Aside0.mk (below_drew1 HB.out)
        clear BK414
        clear HB
        have BK414:=n0_
        have HB:=n1_
        clear n0_ n1_
        have p50:0 ≤ (x18_3:Int):=of_decide_eq_true (by first | (with_reducible assumption) | assumption)
        have q50:x18_3 < (t403.size:Int):=of_decide_eq_true (by first | (with_reducible assumption) | assumption)
        have hx50:=bt_at t403 x18_3
        replace p50:=eq_true p50
        replace q50:=eq_true q50
        have p52:0 ≤ (x18_3:Int):=of_decide_eq_true (by first | (with_reducible assumption) | assumption)
        have q52:x18_3 < (t405.size:Int):=of_decide_eq_true (by first | (with_reducible assumption) | assumption)
        have hx52:=bt_at t405 x18_3
        replace p52:=eq_true p52
        replace q52:=eq_true q52
        refine start_ (n:=12) (S:=fun w'=>True) (ds:=[]) #[false,false,false,false,false,false,false,false,false,false,false,false] (by kernel_rfl) rfl rfl trivial (fun hHeld=>?_);refine with_tabW numnahlaw01_CardTwice.tab16 numnahlaw01_CardTwice.bits16 (fun HT_ HW_=>?_)
        generalize wr.drew = w55 at BK414 HB hHeld ⊢
        refine pure_ (i:=0) (N:=some 110) (v:=?_) (a':=?_) #[true,false,false,false,false,false,false,false,false,false,false,false] rfl rfl (any_of HT_.out (by kernel_rfl)) (fun _ _ _ h=>h) (Or.inl ⟨by rfl,?_⟩) ?_ ?_
        rotate_left
        ·intro w'
         go_simp
         with_reducible rfl
        rotate_left
        ·simp only [Act.put,List.setIfInBounds_toArray,List.set_cons_zero,List.set_cons_succ,i64_w,i32_w]
         rfl
        refine pure_ (i:=1) (N:=some 111) (v:=?_) (a':=?_) #[true,true,false,false,false,false,false,false,false,false,false,false] rfl rfl (any_of HT_.out (by kernel_rfl)) (fun _ _ _ h=>h) (Or.inl ⟨by rfl,?_⟩) ?_ ?_
        rotate_left
        ·intro w'
         go_simp
         with_reducible rfl
        rotate_left
        ·simp only [Act.put,List.setIfInBounds_toArray,List.set_cons_zero,List.set_cons_succ,i64_w,i32_w]
         rfl
        refine pure_ (i:=3) (N:=some 113) (v:=?_) (a':=?_) #[true,true,false,true,false,false,false,false,false,false,false,false] rfl rfl (any_of HT_.out (by kernel_rfl)) (fun _ _ _ h=>h) (Or.inl ⟨by rfl,?_⟩) ?_ ?_
        rotate_left
        ·intro w'
         go_simp
         with_reducible rfl
        rotate_left
        ·simp only [Act.put,List.setIfInBounds_toArray,List.set_cons_zero,List.set_cons_succ,i64_w,i32_w]
         rfl
        refine pure_ (i:=4) (N:=some 114) (v:=?_) (a':=?_) #[true,true,false,true,true,false,false,false,false,false,false,false] rfl rfl (any_of HT_.out (by kernel_rfl)) (fun _ _ _ h=>h) (Or.inl ⟨by rfl,?_⟩) ?_ ?_
        rotate_left
        ·intro w'
         go_simp
         with_reducible rfl
        rotate_left
        ·simp only [Act.put,List.setIfInBounds_toArray,List.set_cons_zero,List.set_cons_succ,i64_w,i32_w]
         rfl
        refine pure_ (i:=7) (N:=some 117) (v:=?_) (a':=?_) #[true,true,false,true,true,false,false,true,false,false,false,false] rfl rfl (any_of HT_.out (by kernel_rfl)) (fun _ _ _ h=>h) (Or.inl ⟨by rfl,?_⟩) ?_ ?_
        rotate_left
        ·intro w'
         go_simp
         with_reducible rfl
        rotate_left
        ·simp only [Act.put,List.setIfInBounds_toArray,List.set_cons_zero,List.set_cons_succ,i64_w,i32_w]
         rfl
        refine pure_ (i:=8) (N:=some 118) (v:=?_) (a':=?_) #[true,true,false,true,true,false,false,true,true,false,false,false] rfl rfl (any_of HT_.out (by kernel_rfl)) (fun _ _ _ h=>h) (Or.inl ⟨by rfl,?_⟩) ?_ ?_
        rotate_left
        ·intro w'
         go_simp
         with_reducible rfl
        rotate_left
        ·simp only [Act.put,List.setIfInBounds_toArray,List.set_cons_zero,List.set_cons_succ,i64_w,i32_w]
         rfl
        refine pure_ (i:=9) (N:=some 119) (v:=?_) (a':=?_) #[true,true,false,true,true,false,false,true,true,true,false,false] rfl rfl (any_of HT_.out (by kernel_rfl)) (fun _ _ _ h=>h) (Or.inl ⟨by rfl,?_⟩) ?_ ?_
        rotate_left
        ·intro w'
         go_simp
         with_reducible rfl
        rotate_left
        ·simp only [Act.put,List.setIfInBounds_toArray,List.set_cons_zero,List.set_cons_succ,i64_w,i32_w]
         rfl
        refine pure_ (i:=10) (N:=some 120) (v:=?_) (a':=?_) #[true,true,false,true,true,false,false,true,true,true,true,false] rfl rfl (any_of HT_.out (by kernel_rfl)) (fun _ _ _ h=>h) (Or.inl ⟨by rfl,?_⟩) ?_ ?_
        rotate_left
        ·intro w'
         go_simp
         with_reducible rfl
        rotate_left
        ·simp only [Act.put,List.setIfInBounds_toArray,List.set_cons_zero,List.set_cons_succ,i64_w,i32_w]
         rfl
        refine take_ (i:=2) (N:=some 112) (v:=?_) (a':=?_) #[true,true,true,true,true,false,false,true,true,true,true,false] rfl rfl (take_ofW HT_.out HW_.out (by kernel_rfl)) (fun _ _ _ h=>h) (Or.inl ⟨by rfl,?_⟩) hHeld ?_ ?_
        rotate_left
        ·intro w' _
         go_simp
         with_reducible rfl
        rotate_left
        ·simp only [Act.put,List.setIfInBounds_toArray,List.set_cons_zero,List.set_cons_succ,i64_w,i32_w]
         rfl
        refine take_ (i:=5) (N:=some 115) (v:=?_) (a':=?_) #[true,true,true,true,true,true,false,true,true,true,true,false] rfl rfl (take_ofW HT_.out HW_.out (by kernel_rfl)) (fun _ _ _ h=>h) (Or.inl ⟨by rfl,?_⟩) hHeld ?_ ?_
        rotate_left
        ·intro w' _
         go_simp
         with_reducible rfl
        rotate_left
        ·simp only [Act.put,List.setIfInBounds_toArray,List.set_cons_zero,List.set_cons_succ,i64_w,i32_w]
         rfl
        refine pure_ (i:=6) (N:=some 116) (v:=?_) (a':=?_) #[true,true,true,true,true,true,true,true,true,true,true,false] rfl rfl (any_of HT_.out (by kernel_rfl)) (fun _ _ _ h=>h) (Or.inl ⟨by rfl,?_⟩) ?_ ?_
        rotate_left
        ·intro w'
         go_simp
         with_reducible rfl
        rotate_left
        ·simp only [Act.put,List.setIfInBounds_toArray,List.set_cons_zero,List.set_cons_succ,i64_w,i32_w]
         rfl
        refine pure_ (i:=11) (N:=some 121) (v:=?_) (a':=?_) #[true,true,true,true,true,true,true,true,true,true,true,true] rfl rfl (any_of HT_.out (by kernel_rfl)) (fun _ _ _ h=>h) (Or.inl ⟨by rfl,?_⟩) ?_ ?_
        rotate_left
        ·intro w'
         go_simp
         with_reducible rfl
        rotate_left
        ·simp only [Act.put,List.setIfInBounds_toArray,List.set_cons_zero,List.set_cons_succ,i64_w,i32_w]
         rfl
        refine done_ (done_of HT_.out (by kernel_rfl)) ?_
        try go_wp2
        go_roundg k3
        case measure=>have:=HJ18.out;have:=HJ32.out;have:=HK3.out;omega
        case rel=>exact ⟨(wrap64 (x18_3 + 1)),(by first | rfl | (simp;done) | (simp [*];done)),H',⟨by have:=HJ18.out;have:=HJ32.out;have:=HK3.out;omega⟩,⟨by (with_reducible repeat (first | refine blk_drewN ?_ _ | refine blk_drew ?_ | refine blk_alloc ?_ _));exact BK414.out⟩,⟨by repeat (first | (with_reducible first | exact HB.out | apply below_alloc | apply pw_below_drewN | apply below_drew1 | refine below_set ?_ GE414.out) | exact HB.out)⟩⟩
       rw [if_neg c47] at H
       have c47b0:decide (x18_3 < (t401.size:Int)) = false:=decide_eq_false c47
       clear c47
       obtain ⟨ji56,hji56⟩:∃ j_:Int,(wrap64 ((t403.size:Int) - 1)) = j_:=⟨_,rfl⟩
       replace H:(if 0 ≤ (ji56) then (if (ji56) < (t403.size:Int) then (if (((bt t403 (ji56)) == 49) == ((Int.tmod t412 2) == 1)) = true then ((numnahlaw01_awake.f).bind fun t415=>(some t415)) else (some false)) else (none)) else (none)) = some r:=by first | (rw [hji56] at H;exact H) | (simp only [hji56] at H ⊢;exact H)
       have hji56w:(IntKind.i64.wrap ((t403.size:Int) - 1)) = ji56:=(i64_w _).trans hji56
       by_cases c57:0 ≤ (ji56)
       case neg =>
        rw [if_neg c57] at H
        exact absurd H (by simp)
       rw [if_pos c57] at H
       have c57b0:decide (0 ≤ (ji56)) = true:=decide_eq_true c57
       clear c57
       by_cases c58:(ji56) < (t403.size:Int)
       case neg =>
        rw [if_neg c58] at H
        exact absurd H (by simp)
       rw [if_pos c58] at H
       have c58b0:decide ((ji56) < (t403.size:Int)) = true:=decide_eq_true c58
       clear c58
       by_cases c60:(((bt t403 (ji56)) == 49) == ((Int.tmod t412 2) == 1)) = true
       case neg =>
        rw [if_neg c60] at H
        have c60b0:(((bt t403 (ji56)) == 49) == ((Int.tmod t412 2) == 1)) = false:=by simpa using c60
        (try (have c60b1:decide (((bt t403 (ji56)) == 49) = ((Int.tmod t412 2) == 1)) = false:=by simpa using c60))
        (try (have c60b2:(((bt t403 (ji56)) == 49) == ((Int.tmod t412 2) == 1)) = false:=by simpa using c60))
        (try (have c60b3:¬ (((bt t403 (ji56)) == 49) = ((Int.tmod t412 2) == 1)):=by simpa using c60))
        clear c60
        obtain rfl:=Option.some.inj H
        try go_wp2
        have n0_:=Aside0.mk (blk_drew BK414.out)
        have n1_:=Aside0.mk (below_drew1 HB.out)
        clear BK414
        clear HB
        have BK414:=n0_
        have HB:=n1_
        clear n0_ n1_
        have p59:0 ≤ ((ji56):Int):=of_decide_eq_true (by first | (with_reducible assumption) | assumption)
        have q59:(ji56) < (t403.size:Int):=of_decide_eq_true (by first | (with_reducible assumption) | assumption)
        have hx59:=bt_at t403 (ji56)
        replace p59:=eq_true p59
        replace q59:=eq_true q59
        refine start_ (n:=15) (S:=fun w'=>w'.cell? ⟨gb414,0,none⟩ = some (.int .i64 t409) ∧ w'.cell? ⟨gb414,1,none⟩ = some (.int .i64 t410) ∧ w'.cell? ⟨gb414,2,none⟩ = some (.int .i64 t411) ∧ w'.cell? ⟨gb414,3,none⟩ = some (.int .i64 t412)) (ds:=[]) #[false,false,false,false,false,false,false,false,false,false,false,false,false,false,false] (by kernel_rfl) rfl rfl ⟨(blk_cell BK414.out 0).trans rfl,(blk_cell BK414.out 1).trans rfl,(blk_cell BK414.out 2).trans rfl,(blk_cell BK414.out 3).trans rfl⟩ (fun hHeld=>?_);refine with_tabW numnahlaw01_CardTwice.tab18 numnahlaw01_CardTwice.bits18 (fun HT_ HW_=>?_)
        generalize wr.drew = w64 at BK414 HB hHeld ⊢
        refine pure_ (i:=0) (N:=some 122) (v:=?_) (a':=?_) #[true,false,false,false,false,false,false,false,false,false,false,false,false,false,false] rfl rfl (any_of HT_.out (by kernel_rfl)) (fun _ _ _ h=>h) (Or.inl ⟨by rfl,?_⟩) ?_ ?_
        rotate_left
        ·intro w'
         go_simp
         with_reducible rfl
        rotate_left
        ·simp only [Act.put,List.setIfInBounds_toArray,List.set_cons_zero,List.set_cons_succ,i64_w,i32_w]
         rfl
        refine pure_ (i:=1) (N:=some 123) (v:=?_) (a':=?_) #[true,true,false,false,false,false,false,false,false,false,false,false,false,false,false] rfl rfl (any_of HT_.out (by kernel_rfl)) (fun _ _ _ h=>h) (Or.inl ⟨by rfl,?_⟩) ?_ ?_
        rotate_left
        ·intro w'
         go_simp
         with_reducible rfl
        rotate_left
        ·simp only [Act.put,List.setIfInBounds_toArray,List.set_cons_zero,List.set_cons_succ,i64_w,i32_w]
         rfl
        refine pure_ (i:=2) (N:=some 124) (v:=?_) (a':=?_) #[true,true,true,false,false,false,false,false,false,false,false,false,false,false,false] rfl rfl (any_of HT_.out (by kernel_rfl)) (fun _ _ _ h=>h) (Or.inl ⟨by rfl,?_⟩) ?_ ?_
        rotate_left
        ·intro w'
         go_simp
         with_reducible rfl
        rotate_left
        ·simp only [Act.put,List.setIfInBounds_toArray,List.set_cons_zero,List.set_cons_succ,i64_w,i32_w]
         rfl
        refine pure_ (i:=3) (N:=some 125) (v:=?_) (a':=?_) #[true,true,true,true,false,false,false,false,false,false,false,false,false,false,false] rfl rfl (any_of HT_.out (by kernel_rfl)) (fun _ _ _ h=>h) (Or.inl ⟨by rfl,?_⟩) ?_ ?_
        rotate_left
        ·intro w'
         go_simp
         with_reducible rfl
        rotate_left
        ·simp only [Act.put,List.setIfInBounds_toArray,List.set_cons_zero,List.set_cons_succ,i64_w,i32_w]
         rfl
        refine pure_ (i:=6) (N:=some 128) (v:=?_) (a':=?_) #[true,true,true,true,false,false,true,false,false,false,false,false,false,false,false] rfl rfl (any_of HT_.out (by kernel_rfl)) (fun _ _ _ h=>h) (Or.inl ⟨by rfl,?_⟩) ?_ ?_
        rotate_left
        ·intro w'
         go_simp
         with_reducible rfl
        rotate_left
        ·simp only [Act.put,List.setIfInBounds_toArray,List.set_cons_zero,List.set_cons_succ,i64_w,i32_w]
         rfl
        refine take_ (i:=4) (N:=some 126) (v:=?_) (a':=?_) #[true,true,true,true,true,false,true,false,false,false,false,false,false,false,false] rfl rfl (take_ofW HT_.out HW_.out (by kernel_rfl)) (fun _ _ _ h=>h) (Or.inl ⟨by rfl,?_⟩) hHeld ?_ ?_
        rotate_left
        ·rintro w' ⟨s0,s1,s2,s3⟩
         go_simp
         with_reducible rfl
        rotate_left
        ·simp only [Act.put,List.setIfInBounds_toArray,List.set_cons_zero,List.set_cons_succ,i64_w,i32_w]
         rfl
        refine pure_ (i:=5) (N:=some 127) (v:=?_) (a':=?_) #[true,true,true,true,true,true,true,false,false,false,false,false,false,false,false] rfl rfl (any_of HT_.out (by kernel_rfl)) (fun _ _ _ h=>h) (Or.inl ⟨by rfl,?_⟩) ?_ ?_
        rotate_left
        ·intro w'
         go_simp
         with_reducible rfl
        rotate_left
        ·simp only [Act.put,List.setIfInBounds_toArray,List.set_cons_zero,List.set_cons_succ,i64_w,i32_w]
         rfl
        refine take_ (i:=7) (N:=some 129) (v:=?_) (a':=?_) #[true,true,true,true,true,true,true,true,false,false,false,false,false,false,false] rfl rfl (take_ofW HT_.out HW_.out (by kernel_rfl)) (fun _ _ _ h=>h) (Or.inl ⟨by rfl,?_⟩) hHeld ?_ ?_
        rotate_left
        ·rintro w' ⟨s0,s1,s2,s3⟩
         go_simp
         with_reducible rfl
        rotate_left
        ·simp only [Act.put,List.setIfInBounds_toArray,List.set_cons_zero,List.set_cons_succ,i64_w,i32_w]
         rfl
        refine pure_ (i:=8) (N:=some 130) (v:=?_) (a':=?_) #[true,true,true,true,true,true,true,true,true,false,false,false,false,false,false] rfl rfl (any_of HT_.out (by kernel_rfl)) (fun _ _ _ h=>h) (Or.inl ⟨by rfl,?_⟩) ?_ ?_
        rotate_left
        ·intro w'
         go_simp
         with_reducible rfl
        rotate_left
        ·simp only [Act.put,List.setIfInBounds_toArray,List.set_cons_zero,List.set_cons_succ,i64_w,i32_w]
         rfl
        refine pure_ (i:=9) (N:=some 131) (v:=?_) (a':=?_) #[true,true,true,true,true,true,true,true,true,true,false,false,false,false,false] rfl rfl (any_of HT_.out (by kernel_rfl)) (fun _ _ _ h=>h) (Or.inl ⟨by rfl,?_⟩) ?_ ?_
        rotate_left
        ·intro w'
         go_simp
         with_reducible rfl
        rotate_left
        ·simp only [Act.put,List.setIfInBounds_toArray,List.set_cons_zero,List.set_cons_succ,i64_w,i32_w]
         rfl
        refine pure_ (i:=10) (N:=some 132) (v:=?_) (a':=?_) #[true,true,true,true,true,true,true,true,true,true,true,false,false,false,false] rfl rfl (any_of HT_.out (by kernel_rfl)) (fun _ _ _ h=>h) (Or.inl ⟨by rfl,?_⟩) ?_ ?_
        rotate_left
        ·intro w'
         go_simp
         with_reducible rfl
        rotate_left
        ·simp only [Act.put,List.setIfInBounds_toArray,List.set_cons_zero,List.set_cons_succ,i64_w,i32_w]
         rfl
        refine pure_ (i:=11) (N:=some 133) (v:=?_) (a':=?_) #[true,true,true,true,true,true,true,true,true,true,true,true,false,false,false] rfl rfl (any_of HT_.out (by kernel_rfl)) (fun _ _ _ h=>h) (Or.inl ⟨by rfl,?_⟩) ?_ ?_
        rotate_left
        ·intro w'
         go_simp
         with_reducible rfl
        rotate_left
        ·simp only [Act.put,List.setIfInBounds_toArray,List.set_cons_zero,List.set_cons_succ,i64_w,i32_w]
         rfl
        refine pure_ (i:=12) (N:=some 134) (v:=undef) (a':=?_) #[true,true,true,true,true,true,true,true,true,true,true,true,true,false,false] rfl rfl (any_of HT_.out (by kernel_rfl)) (fun _ _ _ h=>h) (Or.inr ⟨by rfl,rfl⟩) ?_ ?_
        rotate_left
        ·simp only [Act.put,List.setIfInBounds_toArray,List.set_cons_zero,List.set_cons_succ,i64_w,i32_w]
         rfl
        refine pure_ (i:=13) (N:=some 135) (v:=?_) (a':=?_) #[true,true,true,true,true,true,true,true,true,true,true,true,true,true,false] rfl rfl (any_of HT_.out (by kernel_rfl)) (fun _ _ _ h=>h) (Or.inl ⟨by rfl,?_⟩) ?_ ?_
        rotate_left
        ·intro w'
         go_simp
         with_reducible rfl
        rotate_left
        ·simp only [Act.put,List.setIfInBounds_toArray,List.set_cons_zero,List.set_cons_succ,i64_w,i32_w]
         rfl
        refine pure_ (i:=14) (N:=some 6) (v:=?_) (a':=?_) #[true,true,true,true,true,true,true,true,true,true,true,true,true,true,true] rfl rfl (any_of HT_.out (by kernel_rfl)) (fun _ _ _ h=>h) (Or.inl ⟨by rfl,?_⟩) ?_ ?_
        rotate_left
        ·intro w'
         go_simp
         with_reducible rfl
        rotate_left
        ·simp only [Act.put,List.setIfInBounds_toArray,List.set_cons_zero,List.set_cons_succ,i64_w,i32_w]
         rfl
        refine done_ (done_of HT_.out (by kernel_rfl)) ?_
        try go_wp2
        go_ret
        exact ⟨by first | rfl | (simp [errW_none,errW_some] <;> rfl) | (simp only [← hji6,← hji8,← hji13,← hji56];first | rfl | (simp [errW_none,errW_some] <;> rfl)) | (simp [*,errW_none,errW_some] <;> rfl),by repeat (first | (with_reducible first | exact HB.out | apply below_alloc | apply pw_below_drewN | apply below_drew1 | refine below_set ?_ GE414.out) | exact HB.out)⟩
       rw [if_pos c60] at H
       have c60b0:(((bt t403 (ji56)) == 49) == ((Int.tmod t412 2) == 1)) = true:=c60
       (try (have c60b1:decide (((bt t403 (ji56)) == 49) = ((Int.tmod t412 2) == 1)) = true:=by simpa using c60))
       (try (have c60b2:(((bt t403 (ji56)) == 49) == ((Int.tmod t412 2) == 1)) = true:=by simpa using c60))
       clear c60
       replace H:=Option.bind_eq_some_iff.mp H
       obtain ⟨t415,A610,H⟩:=H
       replace H:(some t415) = some r:=H
       have A61:=Aside0.mk A610
       clear A610
       obtain rfl:=Option.some.inj H
       try go_wp2
       have n0_:=Aside0.mk (blk_drew BK414.out)
       have n1_:=Aside0.mk (below_drew1 HB.out)
       clear BK414
       clear HB
       have BK414:=n0_
       have HB:=n1_
       clear n0_ n1_
       have p59:0 ≤ ((ji56):Int):=of_decide_eq_true (by first | (with_reducible assumption) | assumption)
       have q59:(ji56) < (t403.size:Int):=of_decide_eq_true (by first | (with_reducible assumption) | assumption)
       have hx59:=bt_at t403 (ji56)
       replace p59:=eq_true p59
       replace q59:=eq_true q59
       refine start_ (n:=15) (S:=fun w'=>w'.cell? ⟨gb414,0,none⟩ = some (.int .i64 t409) ∧ w'.cell? ⟨gb414,1,none⟩ = some (.int .i64 t410) ∧ w'.cell? ⟨gb414,2,none⟩ = some (.int .i64 t411) ∧ w'.cell? ⟨gb414,3,none⟩ = some (.int .i64 t412)) (ds:=[]) #[false,false,false,false,false,false,false,false,false,false,false,false,false,false,false] (by kernel_rfl) rfl rfl ⟨(blk_cell BK414.out 0).trans rfl,(blk_cell BK414.out 1).trans rfl,(blk_cell BK414.out 2).trans rfl,(blk_cell BK414.out 3).trans rfl⟩ (fun hHeld=>?_);refine with_tabW numnahlaw01_CardTwice.tab18 numnahlaw01_CardTwice.bits18 (fun HT_ HW_=>?_)
       generalize wr.drew = w62 at BK414 HB hHeld ⊢
       refine pure_ (i:=0) (N:=some 122) (v:=?_) (a':=?_) #[true,false,false,false,false,false,false,false,false,false,false,false,false,false,false] rfl rfl (any_of HT_.out (by kernel_rfl)) (fun _ _ _ h=>h) (Or.inl ⟨by rfl,?_⟩) ?_ ?_
       rotate_left
       ·intro w'
        go_simp
        with_reducible rfl
       rotate_left
       ·simp only [Act.put,List.setIfInBounds_toArray,List.set_cons_zero,List.set_cons_succ,i64_w,i32_w]
        rfl
       refine pure_ (i:=1) (N:=some 123) (v:=?_) (a':=?_) #[true,true,false,false,false,false,false,false,false,false,false,false,false,false,false] rfl rfl (any_of HT_.out (by kernel_rfl)) (fun _ _ _ h=>h) (Or.inl ⟨by rfl,?_⟩) ?_ ?_
       rotate_left
       ·intro w'
        go_simp
        with_reducible rfl
       rotate_left
       ·simp only [Act.put,List.setIfInBounds_toArray,List.set_cons_zero,List.set_cons_succ,i64_w,i32_w]
        rfl
       refine pure_ (i:=2) (N:=some 124) (v:=?_) (a':=?_) #[true,true,true,false,false,false,false,false,false,false,false,false,false,false,false] rfl rfl (any_of HT_.out (by kernel_rfl)) (fun _ _ _ h=>h) (Or.inl ⟨by rfl,?_⟩) ?_ ?_
       rotate_left
       ·intro w'
        go_simp
        with_reducible rfl
       rotate_left
       ·simp only [Act.put,List.setIfInBounds_toArray,List.set_cons_zero,List.set_cons_succ,i64_w,i32_w]
        rfl
       refine pure_ (i:=3) (N:=some 125) (v:=?_) (a':=?_) #[true,true,true,true,false,false,false,false,false,false,false,false,false,false,false] rfl rfl (any_of HT_.out (by kernel_rfl)) (fun _ _ _ h=>h) (Or.inl ⟨by rfl,?_⟩) ?_ ?_
       rotate_left
       ·intro w'
        go_simp
        with_reducible rfl
       rotate_left
       ·simp only [Act.put,List.setIfInBounds_toArray,List.set_cons_zero,List.set_cons_succ,i64_w,i32_w]
        rfl
       refine pure_ (i:=6) (N:=some 128) (v:=?_) (a':=?_) #[true,true,true,true,false,false,true,false,false,false,false,false,false,false,false] rfl rfl (any_of HT_.out (by kernel_rfl)) (fun _ _ _ h=>h) (Or.inl ⟨by rfl,?_⟩) ?_ ?_
       rotate_left
       ·intro w'
        go_simp
        with_reducible rfl
       rotate_left
       ·simp only [Act.put,List.setIfInBounds_toArray,List.set_cons_zero,List.set_cons_succ,i64_w,i32_w]
        rfl
       refine take_ (i:=4) (N:=some 126) (v:=?_) (a':=?_) #[true,true,true,true,true,false,true,false,false,false,false,false,false,false,false] rfl rfl (take_ofW HT_.out HW_.out (by kernel_rfl)) (fun _ _ _ h=>h) (Or.inl ⟨by rfl,?_⟩) hHeld ?_ ?_
       rotate_left
       ·rintro w' ⟨s0,s1,s2,s3⟩
        go_simp
        with_reducible rfl
       rotate_left
       ·simp only [Act.put,List.setIfInBounds_toArray,List.set_cons_zero,List.set_cons_succ,i64_w,i32_w]
        rfl
       refine pure_ (i:=5) (N:=some 127) (v:=?_) (a':=?_) #[true,true,true,true,true,true,true,false,false,false,false,false,false,false,false] rfl rfl (any_of HT_.out (by kernel_rfl)) (fun _ _ _ h=>h) (Or.inl ⟨by rfl,?_⟩) ?_ ?_
       rotate_left
       ·intro w'
        go_simp
        with_reducible rfl
       rotate_left
       ·simp only [Act.put,List.setIfInBounds_toArray,List.set_cons_zero,List.set_cons_succ,i64_w,i32_w]
        rfl
       refine take_ (i:=7) (N:=some 129) (v:=?_) (a':=?_) #[true,true,true,true,true,true,true,true,false,false,false,false,false,false,false] rfl rfl (take_ofW HT_.out HW_.out (by kernel_rfl)) (fun _ _ _ h=>h) (Or.inl ⟨by rfl,?_⟩) hHeld ?_ ?_
       rotate_left
       ·rintro w' ⟨s0,s1,s2,s3⟩
        go_simp
        with_reducible rfl
       rotate_left
       ·simp only [Act.put,List.setIfInBounds_toArray,List.set_cons_zero,List.set_cons_succ,i64_w,i32_w]
        rfl
       refine pure_ (i:=8) (N:=some 130) (v:=?_) (a':=?_) #[true,true,true,true,true,true,true,true,true,false,false,false,false,false,false] rfl rfl (any_of HT_.out (by kernel_rfl)) (fun _ _ _ h=>h) (Or.inl ⟨by rfl,?_⟩) ?_ ?_
       rotate_left
       ·intro w'
        go_simp
        with_reducible rfl
       rotate_left
       ·simp only [Act.put,List.setIfInBounds_toArray,List.set_cons_zero,List.set_cons_succ,i64_w,i32_w]
        rfl
       refine pure_ (i:=9) (N:=some 131) (v:=?_) (a':=?_) #[true,true,true,true,true,true,true,true,true,true,false,false,false,false,false] rfl rfl (any_of HT_.out (by kernel_rfl)) (fun _ _ _ h=>h) (Or.inl ⟨by rfl,?_⟩) ?_ ?_
       rotate_left
       ·intro w'
        go_simp
        with_reducible rfl
       rotate_left
       ·simp only [Act.put,List.setIfInBounds_toArray,List.set_cons_zero,List.set_cons_succ,i64_w,i32_w]
        rfl
       refine pure_ (i:=10) (N:=some 132) (v:=?_) (a':=?_) #[true,true,true,true,true,true,true,true,true,true,true,false,false,false,false] rfl rfl (any_of HT_.out (by kernel_rfl)) (fun _ _ _ h=>h) (Or.inl ⟨by rfl,?_⟩) ?_ ?_
       rotate_left
       ·intro w'
        go_simp
        with_reducible rfl
       rotate_left
       ·simp only [Act.put,List.setIfInBounds_toArray,List.set_cons_zero,List.set_cons_succ,i64_w,i32_w]
        rfl
       refine pure_ (i:=11) (N:=some 133) (v:=?_) (a':=?_) #[true,true,true,true,true,true,true,true,true,true,true,true,false,false,false] rfl rfl (any_of HT_.out (by kernel_rfl)) (fun _ _ _ h=>h) (Or.inl ⟨by rfl,?_⟩) ?_ ?_
       rotate_left
       ·intro w'
        go_simp
        with_reducible rfl
       rotate_left
       ·simp only [Act.put,List.setIfInBounds_toArray,List.set_cons_zero,List.set_cons_succ,i64_w,i32_w]
        rfl
       refine one_ (i:=12) (N:=some 134) #[true,true,true,true,true,true,true,true,true,true,true,true,true,false,false] rfl rfl (one_of HT_.out (by kernel_rfl)) (by decide) (fun K hK=>?_)
       refine goes_ Try.func22 (by kernel_rfl) rfl #[] (by rfl) rfl rfl gm_ ?_
       with_reducible refine (numnahlaw01_awake.calls  t415 _ A61.out).mono ?_
       rintro e w63 ⟨rfl,hb⟩
       refine ⟨_,rfl,?_⟩
       have n0_:=Aside0.mk (blk_below (g:=gb414) (o:=.cells #[.int .i64 t409,.int .i64 t410,.int .i64 t411,.int .i64 t412] 65 (0,0)) (by (with_reducible repeat (first | refine blk_drewN ?_ _ | refine blk_drew ?_ | refine blk_alloc ?_ _));exact BK414.out) hb)
       have n1_:=Aside0.mk (below_step (by repeat (first | (with_reducible first | exact HB.out | apply below_alloc | apply pw_below_drewN | apply below_drew1 | refine below_set ?_ GE414.out) | exact HB.out)) hb)
       clear BK414
       clear HB
       have BK414:=n0_
       have HB:=n1_
       clear n0_ n1_
       (try clear hb)
       refine hK.out _ _ ⟨(blk_cell BK414.out 0).trans rfl,(blk_cell BK414.out 1).trans rfl,(blk_cell BK414.out 2).trans rfl,(blk_cell BK414.out 3).trans rfl⟩ (fun hHeld=>?_)
       clear hK K
       refine norm_ (a':=?_) ?_ ?_
       rotate_left
       ·show Act.put _ (some 134) _ = _
        simp only [Act.put,List.setIfInBounds_toArray,List.set_cons_zero,List.set_cons_succ,i64_w,i32_w]
        rfl
       refine pure_ (i:=13) (N:=some 135) (v:=?_) (a':=?_) #[true,true,true,true,true,true,true,true,true,true,true,true,true,true,false] rfl rfl (any_of HT_.out (by kernel_rfl)) (fun _ _ _ h=>h) (Or.inl ⟨by rfl,?_⟩) ?_ ?_
       rotate_left
       ·intro w'
        go_simp
        with_reducible rfl
       rotate_left
       ·simp only [Act.put,List.setIfInBounds_toArray,List.set_cons_zero,List.set_cons_succ,i64_w,i32_w]
        rfl
       refine pure_ (i:=14) (N:=some 6) (v:=?_) (a':=?_) #[true,true,true,true,true,true,true,true,true,true,true,true,true,true,true] rfl rfl (any_of HT_.out (by kernel_rfl)) (fun _ _ _ h=>h) (Or.inl ⟨by rfl,?_⟩) ?_ ?_
       rotate_left
       ·intro w'
        go_simp
        with_reducible rfl
       rotate_left
       ·simp only [Act.put,List.setIfInBounds_toArray,List.set_cons_zero,List.set_cons_succ,i64_w,i32_w]
        rfl
       refine done_ (done_of HT_.out (by kernel_rfl)) ?_
       try go_wp2
       go_ret
       exact ⟨by first | rfl | (simp [errW_none,errW_some] <;> rfl) | (simp only [← hji6,← hji8,← hji13,← hji56];first | rfl | (simp [errW_none,errW_some] <;> rfl)) | (simp [*,errW_none,errW_some] <;> rfl),by repeat (first | (with_reducible first | exact HB.out | apply below_alloc | apply pw_below_drewN | apply below_drew1 | refine below_set ?_ GE414.out) | exact HB.out)⟩
def numnahlaw01_CardTwice.Pure:Prop:=∀ (a0:Int) (a1:ByteArray) (a2:Int),(Lit.int .i64 a0).wf = true → a1.size ≤ 140737488351232 → (Lit.int .i64 a2).wf = true → ∃ k,numnahlaw01_CardTwice.f k a0 a1 a2 = some true
theorem numnahlaw01_CardTwice.walk (P:numnahlaw01_CardTwice.Pure) (a0:Int) (a1:ByteArray) (a2:Int) (w:World) (w0:(Lit.int .i64 a0).wf = true) (w1:a1.size ≤ 140737488351232) (w2:(Lit.int .i64 a2).wf = true) :
  Calls Try.prog 11 #[.int .i64 a0,.string a1,.int .i64 a2] w fun e w'=>e = .returned (.bool true) ∧ Below w.heap.size w w':=by
 obtain ⟨k,h⟩:=P a0 a1 a2 w0 w1 w2
 refine (numnahlaw01_CardTwice.calls k a0 a1 a2 true w h).mono ?_
 rintro e w' ⟨rfl,hd⟩
 exact ⟨rfl,hd⟩
end Go.Proofs.Ythpahlkhiknofaa.G
set_option linter.unusedSectionVars false
namespace Go.Proofs.Ythpahlkhiknofaa.P
open Go Go.RowKit Go.Proofs.Ythpahlkhiknofaa.M Go.Proofs.Ythpahlkhiknofaa.G
open Go.Proofs.YthpahlkhiknofaaW.PrintWords Go.Proofs.YthpahlkhiknofaaW.PrintMore
def flipB (c:ByteArray) (p:Nat) (x:UInt8):ByteArray:=(c.extract 0 p ++ (⟨#[x]⟩:ByteArray)) ++ c.extract (p + 1) c.size
theorem one_size (x:UInt8):(⟨#[x]⟩:ByteArray).size = 1:=rfl
theorem flip_left {c:ByteArray} {p:Nat} (hp:p < c.size) (x:UInt8):(c.extract 0 p).size = p ∧ (c.extract 0 p ++ (⟨#[x]⟩:ByteArray)).size = p + 1 ∧ (c.extract (p + 1) c.size).size = c.size - (p + 1):=by
 have h1:(c.extract 0 p).size = p:=by rw [ByteArray.size_extract];omega
 refine ⟨h1,?_,?_⟩
 ·rw [ByteArray.size_append,h1,one_size]
 ·rw [ByteArray.size_extract];omega
theorem flip_size {c:ByteArray} {p:Nat} (hp:p < c.size) (x:UInt8):(flipB c p x).size = c.size:=by
 obtain ⟨_,h2,h3⟩:=flip_left hp x
 unfold flipB
 rw [ByteArray.size_append,h2,h3];omega
theorem flip_bt {c:ByteArray} {p:Nat} (hp:p < c.size) (x:UInt8) {r:Nat} (hr:r < c.size):bt (flipB c p x) (r:Int) = if r = p then (x.toNat:Int) else bt c (r:Int):=by
 obtain ⟨h1,h2,h3⟩:=flip_left hp x
 have hs:=flip_size hp x
 rw [bt_get (by omega),bt_get hr]
 unfold flipB
 by_cases h:r = p
 ·rw [if_pos h]
  subst h
  rw [ByteArray.getElem_append_left (by omega),ByteArray.getElem_append_right (by omega)]
  simp only [h1,Nat.sub_self]
  rfl
 ·rw [if_neg h]
  by_cases hlt:r < p
  ·rw [ByteArray.getElem_append_left (by omega),ByteArray.getElem_append_left (by omega),ByteArray.getElem_extract]
   simp only [Nat.zero_add]
  ·rw [ByteArray.getElem_append_right (by omega),ByteArray.getElem_extract]
   have:p + 1 + (r - (c.extract 0 p ++ (⟨#[x]⟩:ByteArray)).size) = r:=by omega
   simp only [this]
theorem and_not_in (p q:Fin 32):(Go.bits .andNot .i64 (p.val:Int) (q.val:Int) == 0) = (andNot p.val q.val == 0):=by
 revert p q;decide +kernel
theorem dig_ne (a b:Bool):(dig a != dig b) = (a ^^ b):=by cases a <;> cases b <;> decide
theorem par_cnt (c:ByteArray):∀ k,par (vB c) k = decide (cntN c k % 2 = 1)
 | 0=>rfl
 | k + 1=>by
  rw [cntN_succ]
  show (par (vB c) k ^^ vB c k) = _
  rw [par_cnt c k]
  cases vB c k
  ·simp
  ·rw [if_pos rfl]
   rcases Nat.mod_two_eq_zero_or_one (cntN c k) with h | h
   ·have:(cntN c k + 1) % 2 = 1:=by omega
    simp [h,this]
   ·have:(cntN c k + 1) % 2 = 0:=by omega
    simp [h,this]
section
variable {c:ByteArray} {n:Nat} (hT:Tot c n)
include hT
theorem differ {o:ByteArray} (hO:Tot o n) {p:Nat} (hp:p < c.size) (hv:∀ r,r < c.size → vB o r = (vB c r ^^ (r == p))) {q:Nat} (hq:q < c.size):((bt (sumS c n) (q:Int) != bt (sumS o n) (q:Int)) != (Go.bits .andNot .i64 (p:Int) (q:Int) == 0)) = false:=by
 have hle:=hT.le
 have h5:=hT.n5
 have so:o.size = c.size:=by rw [hO.size,hT.size]
 rw [sumS_val hT hq,sumS_val hO (by omega),dig_ne,sumA_sB,sumA_sB,sB_congr (N:=c.size) hv n q hq,sB_xor]
 have e:sB n (fun r=>r == p) q = (andNot p q == 0):=by
  rw [sB_par (N:=c.size) (by omega) _ n h5 q hq,par_one (p:=p) hp fun r _ hne=>by rw [beq_false_of_ne hne,Bool.and_false],tB_top (by rw [← hT.size];exact hp) (by rw [← hT.size];exact hq)]
  simp
 rw [e]
 have h2:=and_not_in ⟨p,by omega⟩ ⟨q,by omega⟩
 simp only at h2
 rw [h2]
 cases sB n (vB c) q <;> cases (andNot p q == 0) <;> rfl
theorem last_par:(bt (sumS c n) ((c.size - 1:Nat):Int) == 49) = ((cntN c c.size:Int).tmod 2 == 1):=by
 have hle:=hT.le
 have h5:=hT.n5
 have h1:1 ≤ c.size:=by rw [hT.size];exact Nat.one_le_two_pow
 rw [sumS_val hT (by omega),sumA_sB,sB_par (N:=c.size) (by omega) _ n h5 _ (by omega),par_congr (Q:=vB c) (fun q hq=>by
  rw [tB_top (by rw [← hT.size];exact hq) (by rw [hT.size];exact Nat.sub_lt (by rw [← hT.size];omega) (by decide))]
  have:andNot q (c.size - 1) = 0:=Nat.eq_of_testBit_eq fun k=>by
   rw [testBit_andNot,hT.size,Nat.testBit_two_pow_sub_one,Nat.zero_testBit]
   by_cases hk:k < n
   ·rw [decide_eq_true hk];simp
   ·rw [Nat.testBit_lt_two_pow (Nat.lt_of_lt_of_le (show q < 2 ^ n by rw [← hT.size];exact hq) (Nat.pow_le_pow_right (by decide) (by omega))),Bool.false_and]
  rw [this];rfl),par_cnt]
 have ht:Int.tmod (cntN c c.size:Int) 2 = ((cntN c c.size % 2:Nat):Int):=by rw [Int.tmod_eq_emod_of_nonneg (by omega)];rfl
 rw [ht]
 rcases Nat.mod_two_eq_zero_or_one (cntN c c.size) with h | h <;> rw [h] <;> decide
theorem twice_l0 {o:ByteArray} (hO:Tot o n) {p:Nat} (hp:p < c.size) (hv:∀ r,r < c.size → vB o r = (vB c r ^^ (r == p))) {x y z:Int}:∀ d q,q + d = c.size → Ev (fun k=>numnahlaw01_CardTwice.l0 k c (p:Int) (sumS c n) (sumS o n) (q:Int) x y z (cntN c c.size:Int)) true:=by
 have hle:=hT.le
 have hs:=sumS_size hT
 have hs2:=sumS_size hO
 have so:o.size = c.size:=by rw [hO.size,hT.size]
 have h1:1 ≤ c.size:=by rw [hT.size];exact Nat.one_le_two_pow
 intro d
 induction d with
 | zero =>
  intro q hq
  have hl:=last_par hT
  have hw:wrap64 (((sumS c n).size:Int) - 1) = ((c.size - 1:Nat):Int):=by rw [hs,wrap_id (by omega) (by omega)];omega
  refine Ev.step (f:=fun _=>(numnahlaw01_awake.f).bind fun t415=>some t415) (fun k=>?_) ev_aw
  rw [numnahlaw01_CardTwice.l0,if_neg (by omega),hw,if_pos (by omega),if_pos (by omega),hl]
  simp
 | succ d ih =>
  intro q hq
  have hd:=differ hT hO hp hv (show q < c.size by omega)
  refine Ev.step (fun k=>?_) (ih (q + 1) (by omega))
  rw [numnahlaw01_CardTwice.l0,if_pos (by omega),if_pos (by omega),if_pos (by omega),if_pos (by omega),hd,if_neg (by decide),wrap_succ (by omega)]
theorem twice_j0 (hc:c.size ≤ 40) (htc:totB c = true) (hfn:fnN c = n) {o:ByteArray} (hO:Tot o n) (ho:o.size ≤ 40) (hto:totB o = true) (hfo:fnN o = n) {p:Nat} (hp:p < c.size) (hv:∀ r,r < c.size → vB o r = (vB c r ^^ (r == p))):Ev (fun k=>numnahlaw01_CardTwice.j0 k c (p:Int) o) true:=by
 have hs:=sumS_size hT
 have hs2:=sumS_size hO
 have so:o.size = c.size:=by rw [hO.size,hT.size]
 obtain ⟨b1,b2,b3⟩:=sumS_tot hT
 have e1:=ev_Sum hc htc
 have e2:=ev_Sum ho hto
 have e3:=ev_Sum b3 b1
 have e4:=ev_Measures hc htc
 rw [b2,sum_twice hT] at e3
 rw [hfo] at e2
 rw [hfn] at e1
 refine Ev.step (fun k=>by rw [numnahlaw01_CardTwice.j0]) (Ev.bind e1 (Ev.bind e2 (Ev.bind e3 (Ev.bind e4 ?_))))
 refine Ev.congr (fun k=>if_pos rfl) (Ev.congr (fun k=>if_pos rfl) (Ev.congr (fun k=>if_pos rfl) (Ev.congr (fun k=>if_pos rfl) (Ev.congr (fun k=>if_pos rfl) (Ev.congr (fun k=>if_pos (by show ((sumS c n).size:Int) = _;omega)) ?_)))))
 refine Ev.step (f:=fun k=>numnahlaw01_CardTwice.l0 k c (p:Int) (sumS c n) (sumS o n) ((0:Nat):Int) _ _ _ (cntN c c.size:Int)) (fun k=>by rw [numnahlaw01_CardTwice.j1,if_neg (by show ¬ (((sumS o n).size:Int) != (c.size:Int)) = true;rw [hs2,so];simp)];rfl) (twice_l0 hT hO hp hv c.size 0 (by omega))
end
theorem twice_pure (a0:Int) (a1:ByteArray) (a2:Int) (h1:a1.size ≤ 140737488351232):∃ k,numnahlaw01_CardTwice.f k a0 a1 a2 = some true:=by
 refine Ev.rounds ?_
 unfold numnahlaw01_CardTwice.f
 obtain ⟨m,m0,m5,em⟩:=mod_some a0 (n:=5) (by decide) (by decide)
 obtain ⟨n,rfl⟩:∃ k:Nat,m = (k:Int):=⟨m.toNat,by omega⟩
 rw [em]
 have hw:wrap64 (1 + (n:Int)) = ((n + 1:Nat):Int):=by rw [wrap_id (by omega) (by omega)];omega
 simp only [Option.bind_some,hw]
 obtain ⟨c,hc1,hc2,hc3,hc4,hev⟩:=ev_function a1 h1 (n:=n + 1) (by omega) (by omega)
 have hT:Tot c (n + 1):=by have:=tot_of hc3 hc1;rwa [hc2] at this
 have h32:c.size ≤ 32:=hT.le
 have h1s:1 ≤ c.size:=by rw [hT.size];exact Nat.one_le_two_pow
 refine Ev.bind hev (Ev.congr (fun k=>if_pos (by omega)) ?_)
 rw [shl_one (by omega),← hc4]
 obtain ⟨m,m0,m5,em⟩:=mod_some a2 (n:=(c.size:Int)) (by omega) (by omega)
 obtain ⟨p,rfl⟩:∃ k:Nat,m = (k:Int):=⟨m.toNat,by omega⟩
 rw [em]
 have hp:p < c.size:=by omega
 have hl:=fun x=>flip_left hp x
 have hz:=fun x=>flip_size hp x
 have hb:=fun x r (hr:r < c.size)=>flip_bt hp x hr
 have key:∀ (x:UInt8),(x.toNat = 48 ∨ x.toNat = 49) → (decide ((x.toNat:Int) = 49) = !vB c p) → Ev (fun k=>numnahlaw01_CardTwice.j0 k c (p:Int) (flipB c p x)) true:=fun x hx hxv=>by
  obtain ⟨t1,t2,t3⟩:=mk_tot (c:=flipB c p x) (n:=n + 1) (by omega) (by omega) (by rw [hz,hc4]) fun r hr=>by
   rw [hz] at hr
   rw [hb x r hr]
   split
   ·omega
   ·exact hT.val r hr
  have hO:Tot (flipB c p x) (n + 1):=by have:=tot_of t3 t1;rwa [t2] at this
  refine twice_j0 hT hc3 hc1 hc2 hO t3 t1 t2 hp fun r hr=>?_
  show decide (bt (flipB c p x) (r:Int) = 49) = _
  rw [hb x r hr]
  by_cases h:r = p
  ·subst h
   rw [if_pos rfl,hxv];simp
  ·rw [if_neg h,beq_false_of_ne h,Bool.xor_false];rfl
 simp only [Option.bind_some,wrap_succ (show p < 9223372036854775807 by omega),Int.toNat_natCast]
 have h9:=(hl 48).2.1
 have h9':=(hl 49).2.1
 have h8:=(hl 49).1
 have h7:=(hl 49).2.2
 refine Ev.congr (fun k=>if_pos (by omega)) (Ev.congr (fun k=>if_pos (by omega)) (Ev.congr (fun k=>if_pos (by omega)) (Ev.congr (fun k=>if_pos (by omega)) (Ev.congr (fun k=>if_pos (by omega)) (Ev.congr (fun k=>if_pos (by omega)) (Ev.congr (fun k=>if_pos (by omega)) ?_))))))
 by_cases h:bt c (p:Int) = 49
 ·refine Ev.congr (fun k=>if_pos h) (Ev.congr (fun k=>if_pos (by omega)) (key 48 (.inl (by decide)) ?_))
  have:vB c p = true:=decide_eq_true h
  rw [this];decide
 ·refine Ev.congr (fun k=>if_neg h) (key 49 (.inr (by decide)) ?_)
  have:vB c p = false:=decide_eq_false h
  rw [this];decide
theorem twice_Pure:numnahlaw01_CardTwice.Pure:=fun a0 a1 a2 _ h1 _=>twice_pure a0 a1 a2 h1
end Go.Proofs.Ythpahlkhiknofaa.P
