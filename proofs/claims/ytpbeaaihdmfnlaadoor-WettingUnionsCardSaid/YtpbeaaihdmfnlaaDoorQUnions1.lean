/- Several texts, joined. -/
import Derived.Test.YtpbeaaihdmfnlaaDoorQB6
namespace Go.Proofs.YtpbeaaihdmfnlaaDoor.G
end Go.Proofs.YtpbeaaihdmfnlaaDoor.G
namespace Go.Proofs.YtpbeaaihdmfnlaaDoor.H
end Go.Proofs.YtpbeaaihdmfnlaaDoor.H
namespace Go.Proofs.YtpbeaaihdmfnlaaDoor.M
end Go.Proofs.YtpbeaaihdmfnlaaDoor.M
namespace Go.Proofs.YtpbeaaihdmfnlaaDoor.Row
end Go.Proofs.YtpbeaaihdmfnlaaDoor.Row
namespace Go.Proofs.YtpbeaaihdmfnlaaDoorW.PrintMore
end Go.Proofs.YtpbeaaihdmfnlaaDoorW.PrintMore
namespace Go.Proofs.YtpbeaaihdmfnlaaDoorW.PrintWords
end Go.Proofs.YtpbeaaihdmfnlaaDoorW.PrintWords

/- ### Un -/
/- Unions: the walk. -/
namespace Go.Proofs.YtpbeaaihdmfnlaaDoor.H
open Go Go.RowKit Go.Shelf Go.Proofs.YtpbeaaihdmfnlaaDoor.M Go.Proofs.YtpbeaaihdmfnlaaDoor.G Go.Proofs.YtpbeaaihdmfnlaaDoorW.PrintWords
attribute [local go_sem] Oper.semAt_some wide_fn

theorem quiet_drawn {f : FuncId} {args : Array Value} {w : World} {n m : Nat} {v : Value} (h : Calls Tryd.prog f args (w.drewN n) fun e w' => e = .returned v ∧ Drawn0 (w.drewN n) w') :
    CallsIn Fence.wide m Tryd.prog f args (w.drewN n) fun e w'' => e = .returned v ∧ ∃ m, w'' = w.drewN m := CallsIn.quiet_of ((callsIn_wide.2 h).mono fun _ _ ⟨a, b⟩ => ⟨a, b.out⟩)
structure UnionsFacts (k : Nat) (a0 : Int) (l1 : List S48) (a b c : Int) where
  n : Int
  l : List S48
  F : List (List Int)
  i : Int
  j : Int
  s1 : Int
  s2 : Int
  u : List Int
  s : List Int
  z : List Int
  e : Int
  zz : Int
  ss : Int
  tame : numnahlaw06_tame.f k a0 l1 = some (n, l)
  forts : wetting_Forts.f n l = some (F, 0)
  pos : 1 ≤ F.length
  small : F.length ≤ 4096
  modi : numnahlaw06_mod.f a (F.length : Int) = some i
  modj : numnahlaw06_mod.f b (F.length : Int) = some j
  i0 : 0 ≤ i
  i1 : i < (F.length : Int)
  j0 : 0 ≤ j
  j1 : j < (F.length : Int)
  wi : numnahlaw06_within.f k n (rd_L3 F i) = some true
  wj : numnahlaw06_within.f k n (rd_L3 F j) = some true
  si : numnahref06_Set.f k (rd_L3 F i) = some s1
  sj : numnahref06_Set.f k (rd_L3 F j) = some s2
  list : numnahref06_List.f k (Go.bits .or .i64 s1 s2) = some u
  isFort : wetting_IsFort.f n l u = some (true, 0)
  some_ : numnahlaw06_some.f k n c = some s
  fort : wetting_Fort.f n l s = some (z, e)
  wz : numnahlaw06_within.f k n z = some true
  sz : numnahref06_Set.f k z = some zz
  sets : numnahref06_Set.f k s = some ss
  dry : Go.bits .and .i64 zz ss = 0
  fin : (Go.bits .and .i64 (Go.bits .or .i64 s1 s2) ss = 0 ∧ e = 0 ∧ Go.bits .andNot .i64 (Go.bits .or .i64 s1 s2) zz = 0) ∨ (Go.bits .and .i64 (Go.bits .or .i64 s1 s2) ss ≠ 0 ∧ (e = 0 ∨ e = 6))

set_option maxHeartbeats 400000 in
set_option maxRecDepth 100000 in
theorem unions_any (k : Nat) (a0 : Int) (A1 : Option Addr) (c1 : Nat) (l1 : List S48) (a b c : Int) (w : World) (hl : Kd.C k48 w A1 l1.length l1) (hc : l1.length ≤ c1) (ht : Tab w) (X : UnionsFacts k a0 l1 a b c) :
    Calls Tryd.prog 10 #[.int .i64 a0, .slice A1 l1.length c1, .agg #[.int .i64 a, .int .i64 b, .int .i64 c]] w fun e w' => e = .returned (.bool true) ∧ Below w.heap.size w w' := by
  have h1w : 1 < w.heap.size := (ht 0 (by decide)).2
  refine (callsIn_wide (n := 9)).1 ?_
  refine callsIn_of_wp Tryd.func10 rfl trivial ?_
  simp only [Tryd.ntmps10, List.size_toArray, List.length_cons, List.length_nil, Nat.reduceAdd, Nat.reduceSub, Array.replicate_succ, Array.replicate_zero, List.push_toArray, List.append_toArray, List.nil_append, List.cons_append]
  have HL := Lib.hid hl
  have HT := Lib.hid ht
  clear hl ht
  gi_wp2_with fail
  obtain ⟨f0, f1, f2⟩ := lay1 w (.cells #[.int .i64 a, .int .i64 b, .int .i64 c] 64)
  generalize w.alloc (.cells #[.int .i64 a, .int .i64 b, .int .i64 c] 64) = W0 at f0 f1 f2 ⊢
  have F0 := Lib.hid f0
  have F2 := Lib.hid f2
  clear f0 f2
  refine (callsIn_wide.2 (numnahlaw06_tame.calls k a0 A1 c1 l1 X.n X.l W0 (Kd.C_below HL.out F2.out) hc X.tame)).mono ?_
  rintro e w1 ⟨v, rfl, ho1, hb1⟩
  have s1 := hb1.size
  obtain ⟨A2, c2, e2⟩ := Kd.R_slice ho1
  subst e2
  have B1 := Lib.hid hb1
  have O1 := Lib.hid ho1
  clear ho1 hb1
  gi_wp2_with fail
  refine (callsIn_wide.2 (wetting_Forts.calls X.n A2 c2 X.l X.F 0 w1 (Kd.R_reads' O1.out).2.2 (Kd.R_reads' O1.out).2.1 X.forts (tab_of (F2.out.trans (B1.out.mono (by omega))) HT.out))).mono ?_
  rintro e w2 ⟨v, rfl, ho2, hb2⟩
  have s2 := hb2.size
  obtain ⟨A3, c3, e3⟩ := Kd.S_slice ho2
  subst e3
  have hp : decide ((X.F.length : Int) < 1) = false := decide_eq_false (by have := X.pos; omega)
  have BW2 := Lib.hid (F2.out.trans ((B1.out.trans (hb2.mono s1)).mono (by omega)))
  have O1' := Lib.hid (Kd.R_below O1.out hb2)
  have O2 := Lib.hid ho2
  have hw2 : w.heap.size < w2.heap.size := by omega
  have g2 : w2.heap[w.heap.size]? = some (.cells #[.int .i64 a, .int .i64 b, .int .i64 c] 64) := (hb2.block _ (by omega)).trans ((B1.out.block _ (by omega)).trans F0.out)
  have k0 : w2.cell? ⟨w.heap.size, 0, none⟩ = some (.int .i64 a) := by unfold World.cell?; rw [g2]; rfl
  have k1 : w2.cell? ⟨w.heap.size, 1, none⟩ = some (.int .i64 b) := by unfold World.cell?; rw [g2]; rfl
  have k2 : w2.cell? ⟨w.heap.size, 2, none⟩ = some (.int .i64 c) := by unfold World.cell?; rw [g2]; rfl
  clear ho2 hb2 O1 B1
  gi_wp2_with fail
  obtain ⟨ad, A4, c4, e4, d0, l4, r4⟩ := at_L3 (Kd.S_reads' O2.out).2.2 X.i X.i0 X.i1
  subst e4
  obtain ⟨ad', A5, c5, e5, d1, l5, r5⟩ := at_L3 (Kd.S_reads' O2.out).2.2 X.j X.j0 X.j1
  cases e5
  have R4 := Lib.hid r4
  have R5 := Lib.hid r5
  have p0 := X.i0
  have p1 := X.i1
  have p2 := X.j0
  have p3 := X.j1
  clear r4 r5
  refine quiet_plain rfl (by kernel_rfl) (by kernel_rfl) ?_
  repeat (gi_big_quiet_step (first | (with_reducible exact quiet_drawn (numnahlaw06_mod.calls a (X.F.length : Int) X.i _ X.modi)) | (with_reducible exact quiet_drawn (numnahlaw06_mod.calls b (X.F.length : Int) X.j _ X.modj))))
  refine wpQuietIn_nil ?_
  rintro _ ⟨nq, rfl⟩
  have T3 := Lib.hid (Drawn0.below ⟨⟨nq, rfl⟩⟩ : Below w2.heap.size w2 (w2.drewN nq))
  generalize w2.drewN nq = w3 at T3 ⊢
  clear f1 F0 g2 k0 k1 d0 d1
  gi_wp2_with fail
  refine (callsIn_wide.2 (numnahlaw06_within.calls k X.n A4 c4 (rd_L3 X.F X.i) true w3 (Kd.C_below R4.out T3.out) l4 X.wi)).mono ?_
  rintro e w4 ⟨rfl, hd⟩
  have T4 := Lib.hid (T3.out.trans (hd.below.mono T3.out.size))
  clear hd
  gi_wp2_with fail
  refine (callsIn_wide.2 (numnahlaw06_within.calls k X.n A5 c5 (rd_L3 X.F X.j) true w4 (Kd.C_below R5.out T4.out) l5 X.wj)).mono ?_
  rintro e w5 ⟨rfl, hd⟩
  have T5 := Lib.hid (T4.out.trans (hd.below.mono T4.out.size))
  clear hd
  gi_wp2_with fail
  refine (callsIn_wide.2 (numnahref06_Set.calls k A4 c4 (rd_L3 X.F X.i) X.s1 w5 (Kd.C_below R4.out T5.out) l4 X.si)).mono ?_
  rintro e w6 ⟨rfl, hd⟩
  have T6 := Lib.hid (T5.out.trans (hd.below.mono T5.out.size))
  clear hd
  gi_wp2_with fail
  refine (callsIn_wide.2 (numnahref06_Set.calls k A5 c5 (rd_L3 X.F X.j) X.s2 w6 (Kd.C_below R5.out T6.out) l5 X.sj)).mono ?_
  rintro e w7 ⟨rfl, hd⟩
  have T7 := Lib.hid (T6.out.trans (hd.below.mono T6.out.size))
  clear hd
  gi_wp2_with fail
  refine (callsIn_wide.2 (numnahref06_List.calls k _ X.u w7 X.list)).mono ?_
  rintro e w8 ⟨v, rfl, ho, hb⟩
  obtain ⟨A6, c6, e6⟩ := Kd.R_slice ho
  subst e6
  have OU := Lib.hid ho
  have T8 := Lib.hid (T7.out.trans (hb.mono T7.out.size))
  clear ho hb
  gi_wp2_with fail
  refine (callsIn_wide.2 (wetting_IsFort.calls X.n A2 c2 X.l A6 c6 X.u true 0 w8 (Kd.C_below (Kd.R_reads' O1'.out).2.2 T8.out) (Kd.R_reads' O1'.out).2.1 (Kd.R_reads' OU.out).2.2 (Kd.R_reads' OU.out).2.1 X.isFort (tab_of (BW2.out.trans (T8.out.mono BW2.out.size)) HT.out))).mono ?_
  rintro e w9 ⟨rfl, hb⟩
  have T9 := Lib.hid (T8.out.trans (hb.mono T8.out.size))
  clear hb OU
  have k9 := (T9.out.cell (p := ⟨w.heap.size, 2, none⟩) (by show w.heap.size < w2.heap.size; exact hw2)).trans k2
  gi_wp2_with fail
  refine (callsIn_wide.2 (numnahlaw06_some.calls k X.n c X.s w9 X.some_)).mono ?_
  rintro e w10 ⟨v, rfl, ho, hb⟩
  obtain ⟨A7, c7, e7⟩ := Kd.R_slice ho
  subst e7
  have OS := Lib.hid ho
  have T10 := Lib.hid (T9.out.trans (hb.mono T9.out.size))
  clear ho hb k9
  gi_wp2_with fail
  refine (callsIn_wide.2 (wetting_Fort.calls X.n A2 c2 X.l A7 c7 X.s X.z X.e w10 (Kd.C_below (Kd.R_reads' O1'.out).2.2 T10.out) (Kd.R_reads' O1'.out).2.1 (Kd.R_reads' OS.out).2.2 (Kd.R_reads' OS.out).2.1 X.fort (tab_of (BW2.out.trans (T10.out.mono BW2.out.size)) HT.out))).mono ?_
  rintro e w11 ⟨v, rfl, ho, hb⟩
  obtain ⟨A8, c8, e8⟩ := Kd.R_slice ho
  subst e8
  have OZ := Lib.hid (Kd.R_reads' ho).2.2
  have lz := (Kd.R_reads' ho).2.1
  have OS2 := Lib.hid (Kd.C_below (Kd.R_reads' OS.out).2.2 hb)
  have ls := (Kd.R_reads' OS.out).2.1
  have T11 := Lib.hid (T10.out.trans (hb.mono T10.out.size))
  clear ho hb OS
  gi_wp2_with fail
  refine (callsIn_wide.2 (numnahlaw06_within.calls k X.n A8 c8 X.z true w11 OZ.out lz X.wz)).mono ?_
  rintro e w12 ⟨rfl, hd⟩
  have U12 := Lib.hid hd.below
  clear hd
  gi_wp2_with fail
  refine (callsIn_wide.2 (numnahref06_Set.calls k A8 c8 X.z X.zz w12 (Kd.C_below OZ.out U12.out) lz X.sz)).mono ?_
  rintro e w13 ⟨rfl, hd⟩
  have U13 := Lib.hid (U12.out.trans (hd.below.mono U12.out.size))
  clear hd U12
  gi_wp2_with fail
  refine (callsIn_wide.2 (numnahref06_Set.calls k A7 c7 X.s X.ss w13 (Kd.C_below OS2.out U13.out) ls X.sets)).mono ?_
  rintro e w14 ⟨rfl, hd⟩
  have U14 := Lib.hid (U13.out.trans (hd.below.mono U13.out.size))
  clear hd U13
  have hdry : (Go.bits .and .i64 X.zz X.ss != 0) = false := by rw [X.dry]; rfl
  gi_wp2_with fail
  refine (callsIn_wide.2 (numnahref06_Set.calls k A7 c7 X.s X.ss w14 (Kd.C_below OS2.out U14.out) ls X.sets)).mono ?_
  rintro e w15 ⟨rfl, hd⟩
  have U15 := Lib.hid (U14.out.trans (hd.below.mono U14.out.size))
  clear hd U14
  rcases X.fin with ⟨hb0, he, hz⟩ | ⟨hb0, he⟩
  · have hb1 : (Go.bits .and .i64 (Go.bits .or .i64 X.s1 X.s2) X.ss == 0) = true := by rw [hb0]; rfl
    have he1 : (X.e == 0) = true := by rw [he]; rfl
    have hz1 : (Go.bits .andNot .i64 (Go.bits .or .i64 X.s1 X.s2) X.zz == 0) = true := by rw [hz]; rfl
    have hbe := hb0
    clear hb0 he hz
    gi_wp2_with fail
    refine (callsIn_wide.2 (numnahref06_Set.calls k A8 c8 X.z X.zz w15 (Kd.C_below OZ.out U15.out) lz X.sz)).mono ?_
    rintro e w16 ⟨rfl, hd⟩
    have U16 := Lib.hid (U15.out.trans (hd.below.mono U15.out.size))
    clear hd U15
    gi_wp2_with fail
    refine (callsIn_wide.2 (awake_any w16 (tab_of (BW2.out.trans ((T11.out.trans (U16.out.mono T11.out.size)).mono BW2.out.size)) HT.out))).mono ?_
    rintro e w17 ⟨rfl, hb⟩
    have U17 := Lib.hid (U16.out.trans (hb.mono U16.out.size))
    clear hb
    gi_wp2_with fail
    exact ⟨rfl, _, results_tmp (t := 6) rfl _ _ _, rfl, BW2.out.trans ((T11.out.trans (U17.out.mono T11.out.size)).mono BW2.out.size)⟩
  · have hb1 : (Go.bits .and .i64 (Go.bits .or .i64 X.s1 X.s2) X.ss == 0) = false := beq_eq_false_iff_ne.2 hb0
    have fin : ∀ (w16 : World), Below w11.heap.size w11 w16 → Below w.heap.size w w16 := fun w16 h => BW2.out.trans ((T11.out.trans (h.mono T11.out.size)).mono BW2.out.size)
    have tb : ∀ (w16 : World), Below w11.heap.size w11 w16 → Tab w16 := fun w16 h => tab_of (fin w16 h) HT.out
    have FIN := Lib.hid fin
    have TB := Lib.hid tb
    clear hb0 fin tb
    rcases he with he | he
    · have he1 : (X.e == 0) = true := by rw [he]; rfl
      clear he
      gi_wp2_with fail
      refine (callsIn_wide.2 (awake_any w15 (TB.out _ U15.out))).mono ?_
      rintro e w17 ⟨rfl, hb⟩
      have U17 := Lib.hid (U15.out.trans (hb.mono U15.out.size))
      clear hb
      gi_wp2_with fail
      exact ⟨rfl, _, results_tmp (t := 6) rfl _ _ _, rfl, FIN.out _ U17.out⟩
    · have he1 : (X.e == 0) = false := by rw [he]; rfl
      have he2 : (X.e == 6) = true := by rw [he]; rfl
      clear he
      gi_wp2_with fail
      refine (callsIn_wide.2 (awake_any w15 (TB.out _ U15.out))).mono ?_
      rintro e w17 ⟨rfl, hb⟩
      have U17 := Lib.hid (U15.out.trans (hb.mono U15.out.size))
      clear hb
      gi_wp2_with fail
      exact ⟨rfl, _, results_tmp (t := 6) rfl _ _ _, rfl, FIN.out _ U17.out⟩
end Go.Proofs.YtpbeaaihdmfnlaaDoor.H

/- ### LUnions -/
/- The law of unions of forts, in plain words. -/
namespace Go.Proofs.YtpbeaaihdmfnlaaDoor.P
open Go Go.RowKit Go.Proofs.YtpbeaaihdmfnlaaDoor.M Go.Proofs.YtpbeaaihdmfnlaaDoor.H Go.Proofs.YtpbeaaihdmfnlaaDoor.G
open Go.Proofs.YtpbeaaihdmfnlaaDoorW.PrintWords Go.Proofs.YtpbeaaihdmfnlaaDoorW.PrintMore

theorem fort_or {n a b : Nat} {near : Nat → Nat} (hn : n ≤ 12) (hr : ∀ v, near v < 2 ^ n) (ha : a < 2 ^ n) (hb : b < 2 ^ n) (h1 : fortM n near a = true) (h2 : fortM n near b = true) : fortM n near (a ||| b) = true := by
  rw [fort_iff (by omega)] at h1 h2 ⊢
  refine ⟨fun e => h1.1 ?_, fun v hv hbit hc => ?_⟩
  · obtain ⟨i, hi⟩ := ne_zero_bit h1.1
    have : (a ||| b).testBit i = true := by rw [Nat.testBit_or, hi]; rfl
    rw [e, Nat.zero_testBit] at this; cases this
  · rw [Nat.testBit_or, Bool.or_eq_false_iff] at hbit
    have hl : near v &&& (a ||| b) < 2 ^ 64 := lt64 hn (Nat.lt_of_le_of_lt Nat.and_le_left (hr v))
    have sub : ∀ c, Sub c (a ||| b) → Sub (near v &&& c) (near v &&& (a ||| b)) := fun c hc => and_mono hc
    by_cases e : near v &&& a = 0
    · have e2 : near v &&& b ≠ 0 := by
        intro e2
        obtain ⟨w, hw, e3⟩ := card_one hl hc
        have hbt : (near v &&& (a ||| b)).testBit w = true := by rw [e3, testBit_pow]; exact decide_eq_true rfl
        rw [Nat.testBit_and, Nat.testBit_or, Bool.and_eq_true, Bool.or_eq_true] at hbt
        obtain ⟨k1, k2⟩ := hbt
        rcases k2 with k2 | k2
        · have : (near v &&& a).testBit w = true := by rw [Nat.testBit_and, k1, k2]; rfl
          rw [e, Nat.zero_testBit] at this; cases this
        · have : (near v &&& b).testBit w = true := by rw [Nat.testBit_and, k1, k2]; rfl
          rw [e2, Nat.zero_testBit] at this; cases this
      have := part_one hl (sub b (sub_or_right a b)) hc e2
      exact h2.2 v hv hbit.2 (by rw [this]; exact hc)
    · have := part_one hl (sub a (sub_or_left a b)) hc e
      exact h1.2 v hv hbit.1 (by rw [this]; exact hc)
theorem unions_facts (a0 : Int) {l : List S48} (hl : fitL l) (a b c : Int) : ∃ k, Nonempty (UnionsFacts k a0 l a b c) := by
  obtain ⟨n, out, h, hv⟩ := tame_ex a0 hl
  obtain ⟨s, hs, hse⟩ := ev_some h.g.le c
  have hn := h.g.le
  have hr := h.g.lt
  obtain ⟨F, hF⟩ : ∃ F, fortsM n (nearOf out) = F := ⟨_, rfl⟩
  have hspec := forts_spec (near := nearOf out) hn
  rw [hF] at hspec
  have h12 := p12 hn
  have hlt : ∀ x ∈ F, x < 4096 := fun x hx => Nat.lt_of_lt_of_le ((hspec.1 x).1 hx).1 h12
  have hlen : F.length ≤ 4096 := nodup_lt (hspec.2.imp (fun h => before_ne h)) hlt
  have hne : F ≠ [] := by rw [← hF]; exact forts_ne h.g.pos hn
  have hp := List.length_pos_iff.2 hne
  obtain ⟨i, hi, hi1⟩ := mod_f a (n := F.length) hp (by omega)
  obtain ⟨j, hj, hj1⟩ := mod_f b (n := F.length) hp (by omega)
  have hML : (F.map (fun x => natsI (bitsOf x))).length = F.length := List.length_map _
  have rdF : ∀ m (hm : m < F.length), rd_L3 (F.map fun x => natsI (bitsOf x)) (m : Int) = natsI (bitsOf F[m]) := by
    intro m hm
    unfold rd_L3
    rw [Int.toNat_natCast, List.getD_eq_getElem?_getD, List.getElem?_map, List.getElem?_eq_getElem hm]
    rfl
  obtain ⟨x, hx⟩ : ∃ x, F[i] = x := ⟨_, rfl⟩
  obtain ⟨y, hy⟩ : ∃ y, F[j] = y := ⟨_, rfl⟩
  have mx := (hspec.1 F[i]).1 (List.getElem_mem hi1)
  have my := (hspec.1 F[j]).1 (List.getElem_mem hj1)
  rw [hx] at mx
  rw [hy] at my
  have hx' : x < 4096 := by omega
  have hy' : y < 4096 := by omega
  have ri := rdF i hi1
  have rj := rdF j hj1
  rw [hx] at ri
  rw [hy] at rj
  have hxy : x ||| y < 2 ^ n := Nat.or_lt_two_pow mx.1 my.1
  have hfort := fort_or hn hr mx.1 my.1 mx.2.1 my.2.1
  have g := good_forced hr
  have hcl := cl_lt g hs
  have hfl : full n < 4096 := Nat.lt_of_lt_of_le (full_lt n n (Nat.le_refl n)) h12
  -- the greatest fort
  obtain ⟨z, hz⟩ : ∃ z, (if cl (forcedM (nearOf out)) n s = full n then 0 else andNot (full n) (cl (forcedM (nearOf out)) n s)) = z := ⟨_, rfl⟩
  have hzl : z < 2 ^ n := by
    rw [← hz]; split
    · exact Nat.two_pow_pos n
    · exact andNot_lt (full_lt n n (Nat.le_refl n))
  have hz' : z < 4096 := by omega
  have ez : (if cl (forcedM (nearOf out)) n s = full n then [] else bitsOf (andNot (full n) (cl (forcedM (nearOf out)) n s))) = bitsOf z := by
    rw [← hz]; split
    · exact bitsOf_zero.symm
    · rfl
  have ffort := h.fort hs
  rw [ez] at ffort
  have hdry : z &&& s = 0 := by
    rw [and_zero]
    intro v hv
    rw [← hz] at hv
    split at hv
    · rw [Nat.zero_testBit] at hv; cases hv
    · have := (disj_andNot hv).2
      cases hb : s.testBit v with
      | false => rfl
      | true => rw [cl_sub v hb] at this; cases this
  have eor : Go.bits .or .i64 (x : Int) (y : Int) = ((x ||| y : Nat) : Int) := orI hx' hy'
  have hs' := h.small hs
  have hxs : x ||| y < 4096 := by omega
  have eand : ∀ u v : Nat, u < 4096 → v < 4096 → Go.bits .and .i64 (u : Int) (v : Int) = ((u &&& v : Nat) : Int) := fun u v h1 h2 => andI h1 h2
  obtain ⟨K1, t1⟩ := hv
  obtain ⟨K2, t2⟩ := hse
  obtain ⟨K3, t3⟩ := h.within mx.1
  obtain ⟨K4, t4⟩ := h.within my.1
  obtain ⟨K5, t5⟩ := h.set mx.1
  obtain ⟨K6, t6⟩ := h.set my.1
  obtain ⟨K7, t7⟩ := ev_list hxs
  obtain ⟨K8, t8⟩ := h.within hzl
  obtain ⟨K9, t9⟩ := h.set hzl
  obtain ⟨K10, t10⟩ := h.set hs
  have f1 := h.isFort hxy
  rw [hfort] at f1
  refine ⟨K1 + K2 + K3 + K4 + K5 + K6 + K7 + K8 + K9 + K10, ⟨?_⟩⟩
  exact {
    n := n, l := out, F := F.map fun x => natsI (bitsOf x), i := i, j := j, s1 := x, s2 := y, u := natsI (bitsOf (x ||| y)), s := natsI (bitsOf s), z := natsI (bitsOf z), e := if cl (forcedM (nearOf out)) n s = full n then 6 else 0, zz := z, ss := s
    tame := t1 _ (by omega), forts := by rw [h.forts, hF], pos := by rw [hML]; omega, small := by rw [hML]; exact hlen
    modi := by rw [hML]; exact hi
    modj := by rw [hML]; exact hj
    i0 := by omega, i1 := by rw [hML]; omega, j0 := by omega, j1 := by rw [hML]; omega
    wi := by rw [ri]; exact t3 _ (by omega)
    wj := by rw [rj]; exact t4 _ (by omega)
    si := by rw [ri]; exact t5 _ (by omega)
    sj := by rw [rj]; exact t6 _ (by omega)
    list := by rw [eor]; exact t7 _ (by omega)
    isFort := f1
    some_ := t2 _ (by omega)
    fort := ffort
    wz := t8 _ (by omega)
    sz := t9 _ (by omega)
    sets := t10 _ (by omega)
    dry := by rw [eand _ _ hz' hs', hdry]; rfl
    fin := by
      rw [eor, eand _ _ hxs hs', andN hxs]
      by_cases hd : (x ||| y) &&& s = 0
      · refine .inl ⟨by rw [hd]; rfl, ?_, ?_⟩
        · have hne2 : cl (forcedM (nearOf out)) n s ≠ full n := by
            intro e
            have h0 := fort_dry hn hr hfort hs hd
            rw [e] at h0
            obtain ⟨v, hv⟩ := ne_zero_bit (fort_ne hfort)
            have := and_zero.1 h0 v hv
            rw [testBit_full, decide_eq_false_iff_not] at this
            exact this (bit_lt hxy hv)
          rw [if_neg hne2]
        · have h0 := fort_dry hn hr hfort hs hd
          have hsub : Sub (x ||| y) z := by
            intro v hv
            have hc := and_zero.1 h0 v hv
            have hne2 : cl (forcedM (nearOf out)) n s ≠ full n := by
              intro e
              rw [e, testBit_full, decide_eq_false_iff_not] at hc
              exact hc (bit_lt hxy hv)
            rw [← hz, if_neg hne2, testBit_andNot, testBit_full, hc, decide_eq_true (bit_lt hxy hv)]
            rfl
          rw [andNot_zero.2 hsub]; rfl
      · refine .inr ⟨by omega, ?_⟩
        split
        · exact .inr rfl
        · exact .inl rfl }
end Go.Proofs.YtpbeaaihdmfnlaaDoor.P
