/- Several texts, joined. -/
import Derived.KernelRfl
import Derived.Test.YtjohcjfmlhihbaaQE4
set_option linter.unusedVariables false
set_option linter.unusedSimpArgs false
namespace Go.Proofs.Ytjohcjfmlhihbaa.G
open Go.RowKit Go.Proofs.YtjohcjfmlhihbaaW.PrintWords Go.Proofs.YtjohcjfmlhihbaaW.PrintLast Go.Proofs.YtjohcjfmlhihbaaW.PrintMore
set_option maxHeartbeats 8000000
set_option maxRecDepth 100000
attribute [local go_sem] cond_true cond_false fld23_0 fld23_1 fld45_0 fld45_1 fld109_0 fld109_1 fld94_0 fld94_1 max2_int min2_int max_two min_two max_three min_three max_four min_four
def numnahref07_total.l0:Nat → List Int → Int → Int → Option (Int)
 | 0,_,_,_=>none
 | k + 1,x0,x3,x4=>if x4 < (x0.length:Int) then (if 0 ≤ x4 then (numnahref07_total.l0 k x0 (wrap64 (x3 + (rd x0 x4))) (wrap64 (x4 + 1))) else (none)) else (some x3)
def numnahref07_total.f (k:Nat) (l0:List Int):Option (Int):=numnahref07_total.l0 k l0 0 0
theorem numnahref07_total.mono_l:∀ k,(∀ y0 y1 y2,LeO (numnahref07_total.l0 k y0 y1 y2) (numnahref07_total.l0 (k + 1) y0 y1 y2))
 | 0=>fun _ _ _ r h=>by simp [numnahref07_total.l0] at h
 | k + 1=>by
  have b5:=numnahref07_total.mono_l k
  intro y0 y1 y2
  unfold numnahref07_total.l0
  repeat' first
  | (with_reducible first | exact b5 _ _ _ | exact LeO.refl _ | exact LeO.none _ | refine LeO.ite ?_ ?_ | refine LeO.bind ?_ (fun _=>?_))
  | exact LeO.none _ | refine LeO.ite ?_ ?_ | refine LeO.bind ?_ (fun _=>?_)
theorem numnahref07_total.mono:∀ a0 k,LeO (numnahref07_total.f k a0) (numnahref07_total.f (k + 1) a0):=by
 intro a0 k
 have b5:=numnahref07_total.mono_l k
 unfold numnahref07_total.f
 repeat' first
   | (with_reducible first | exact b5 _ _ _ | exact LeO.refl _ | exact LeO.none _ | refine LeO.ite ?_ ?_ | refine LeO.bind ?_ (fun _=>?_))
   | exact LeO.none _ | refine LeO.ite ?_ ?_ | refine LeO.bind ?_ (fun _=>?_)
theorem numnahref07_total.calls (k:Nat) (A0:Option Addr) (c0:Nat) (l0:List Int) (r:Int) (w:World) (b8:Kd.C (Kd.int .i64) w A0 l0.length l0) (b9:l0.length ≤ c0) (h:numnahref07_total.f k l0 = some r) :
  Calls Try.prog 65 #[.slice A0 l0.length c0] w fun e w'=>e = .returned (.int .i64 r) ∧ Drawn0 w w':=by
 have d1:=A_ b8
 have d3:=A_ b9
 clear b8 b9
 have H:(numnahref07_total.l0 k l0 0 0) = some r:=h
 clear h
 have H':=A_ H
 clear H
 go_enter Try.func65,Try.ntmps65
 go_wp2
 go_loopg [3,4] k (fun kq v3 v4 w'=>∃ (b1:Int) (b0:Int),v3 = .int .i64 b1 ∧ v4 = .int .i64 b0 ∧ Aside0 (numnahref07_total.l0 kq l0 b1 b0 = some r) ∧ Aside0 (kq ≤ k) ∧ Drawn0 w w')
 case atStart=>exact ⟨(0),(0),(by first | rfl | (simp;done) | (simp [*];done)),(by first | rfl | (simp;done) | (simp [*];done)),H',⟨Nat.le_refl _⟩,by repeat (first | exact Drawn0.refl _ | apply Drawn0.step)⟩
 case round =>
  clear H'
  obtain ⟨b1,b0,rfl,rfl,HA,c1,⟨m1,rfl⟩⟩:=hrel
  cases gk with
  | zero=>exact absurd HA.out (by simp [numnahref07_total.l0])
  | succ k1 =>
   have H:=HA.out
   clear HA
   simp only [numnahref07_total.l0] at H
   by_cases c2:b0 < (l0.length:Int)
   case neg =>
    rw [if_neg c2] at H
    have b6:=decide_eq_false c2
    clear c2
    obtain rfl:=Option.some.inj H
    go_wp2
    go_ret
    exact ⟨by first | rfl | (simp;done) | (simp [*];done),by repeat (first | exact Drawn0.refl _ | apply Drawn0.step)⟩
   rw [if_pos c2] at H
   have b6:=decide_eq_true c2
   clear c2
   replace H:=gd H
   obtain ⟨c3,H⟩:=H
   have d2:=decide_eq_true c3
   clear c3
   have H':=A_ H
   clear H
   have b2:0 ≤ (b0:Int):=of_decide_eq_true (by first | (with_reducible assumption) | assumption)
   have b3:b0 < (l0.length:Int):=of_decide_eq_true (by first | (with_reducible assumption) | assumption)
   obtain ⟨d0,b7,b4⟩:=Kd.at_int d1.out b0 b2 b3
   cases b7
   replace b2:=eq_true b2
   replace b3:=eq_true b3
   go_wp2
   go_roundg k1
   case measure=>have:=c1.out;omega
   case rel=>exact ⟨(wrap64 (b1 + (rd l0 b0))),(wrap64 (b0 + 1)),(by first | rfl | (simp;done) | (simp [*];done)),(by first | rfl | (simp;done) | (simp [*];done)),H',⟨by have:=c1.out;omega⟩,by repeat (first | exact Drawn0.refl _ | apply Drawn0.step)⟩
mutual
def numnahref07_Claims.j0:Nat → List Int → Int → Bool → Option (Bool)
 | 0,_,_,_=>none
 | k + 1,x0,x1,x13=>if x13 = true then (some false) else (numnahref07_Claims.l0 k x0 x1 0)
def numnahref07_Claims.l0:Nat → List Int → Int → Int → Option (Bool)
 | 0,_,_,_=>none
 | k + 1,x0,x1,x5=>if x5 < (x0.length:Int) then (if 0 ≤ x5 then (if (rd x0 x5) < 0 then (some false) else (if (rd x0 x5) > 1000 then (some false) else (numnahref07_Claims.l0 k x0 x1 (wrap64 (x5 + 1))))) else (none)) else (if x1 ≥ 0 then ((numnahref07_total.f k x0).bind fun d0=>(some (decide (x1 ≤ d0)))) else (some false))
end
def numnahref07_Claims.f (k:Nat) (l0:List Int) (a1:Int):Option (Bool):=if (l0.length:Int) < 1 then (numnahref07_Claims.j0 k l0 a1 true) else (numnahref07_Claims.j0 k l0 a1 (decide ((l0.length:Int) > 10)))
theorem numnahref07_Claims.mono_l:∀ k,(∀ y0 y1 y2,LeO (numnahref07_Claims.j0 k y0 y1 y2) (numnahref07_Claims.j0 (k + 1) y0 y1 y2)) ∧ (∀ y0 y1 y2,LeO (numnahref07_Claims.l0 k y0 y1 y2) (numnahref07_Claims.l0 (k + 1) y0 y1 y2))
 | 0=>⟨fun _ _ _ r h=>by simp [numnahref07_Claims.j0] at h,fun _ _ _ r h=>by simp [numnahref07_Claims.l0] at h⟩
 | k + 1=>by
  obtain ⟨d6,d7⟩:=numnahref07_Claims.mono_l k
  refine ⟨?_,?_⟩
  ·intro y0 y1 y2
   unfold numnahref07_Claims.j0
   repeat' first
   | (with_reducible first | exact d6 _ _ _ | exact d7 _ _ _ | exact numnahref07_total.mono _ _ | exact LeO.refl _ | exact LeO.none _ | refine LeO.ite ?_ ?_ | refine LeO.bind ?_ (fun _=>?_))
   | exact LeO.none _ | refine LeO.ite ?_ ?_ | refine LeO.bind ?_ (fun _=>?_)
  intro y0 y1 y2
  unfold numnahref07_Claims.l0
  repeat' first
  | (with_reducible first | exact d6 _ _ _ | exact d7 _ _ _ | exact numnahref07_total.mono _ _ | exact LeO.refl _ | exact LeO.none _ | refine LeO.ite ?_ ?_ | refine LeO.bind ?_ (fun _=>?_))
  | exact LeO.none _ | refine LeO.ite ?_ ?_ | refine LeO.bind ?_ (fun _=>?_)
theorem numnahref07_Claims.mono:∀ a0 a1 k,LeO (numnahref07_Claims.f k a0 a1) (numnahref07_Claims.f (k + 1) a0 a1):=by
 intro a0 a1 k
 obtain ⟨d6,d7⟩:=numnahref07_Claims.mono_l k
 unfold numnahref07_Claims.f
 repeat' first
   | (with_reducible first | exact d6 _ _ _ | exact d7 _ _ _ | exact numnahref07_total.mono _ _ | exact LeO.refl _ | exact LeO.none _ | refine LeO.ite ?_ ?_ | refine LeO.bind ?_ (fun _=>?_))
   | exact LeO.none _ | refine LeO.ite ?_ ?_ | refine LeO.bind ?_ (fun _=>?_)
theorem numnahref07_Claims.calls (k:Nat) (A0:Option Addr) (c0:Nat) (l0:List Int) (a1:Int) (r:Bool) (w:World) (e3:Kd.C (Kd.int .i64) w A0 l0.length l0) (e4:l0.length ≤ c0) (h:numnahref07_Claims.f k l0 a1 = some r) :
  Calls Try.prog 21 #[.slice A0 l0.length c0,.int .i64 a1] w fun e w'=>e = .returned (.bool r) ∧ Drawn0 w w':=by
 have d3:=A_ e3
 have e8:=A_ e4
 clear e3 e4
 have H:(if (l0.length:Int) < 1 then (numnahref07_Claims.j0 k l0 a1 true) else (numnahref07_Claims.j0 k l0 a1 (decide ((l0.length:Int) > 10)))) = some r:=h
 clear h
 have d8:=A_ H
 clear H
 go_enter Try.func21,Try.ntmps21
 go_upto_region 1 with (fail)
 go_cut [13] (fun e9 wc=>∃ (kq:Nat) (b5:Bool),e9 = .bool b5 ∧ Aside0 (numnahref07_Claims.j0 kq l0 a1 b5 = some r) ∧ Aside0 (kq ≤ k) ∧ Drawn0 w wc)
 case first =>
  have H:=d8.out
  clear d8
  by_cases c4:(l0.length:Int) < 1
  ·rw [if_pos c4] at H
   have b8:=decide_eq_true c4
   have d9:decide (l0.length < 1) = true:=decide_eq_true (by omega)
   clear c4
   (first | rw [b8] | (simp only [i64_w,i32_w];rw [b8]) | skip)
   have H':=A_ H
   clear H
   go_wp2
   go_meet
   case rel=>exact ⟨_,(true),(by first | rfl | (simp;done) | (simp [*];done)),H',⟨by first | omega | exact Nat.le_refl _⟩,by repeat (first | exact Drawn0.refl _ | apply Drawn0.step)⟩
  rw [if_neg c4] at H
  have b8:=decide_eq_false c4
  have d9:decide (l0.length < 1) = false:=decide_eq_false (by omega)
  clear c4
  (first | rw [b8] | (simp only [i64_w,i32_w];rw [b8]) | skip)
  have H':=A_ H
  clear H
  go_wp2
  go_meet
  case rel=>exact ⟨_,(decide ((l0.length:Int) > 10)),(by first | rfl | (simp;done) | (simp [*];done)),H',⟨by first | omega | exact Nat.le_refl _⟩,by repeat (first | exact Drawn0.refl _ | apply Drawn0.step)⟩
 case rest =>
  clear d8
  obtain ⟨kq,b5,rfl,HA,e5,⟨h2,rfl⟩⟩:=hcut
  cases kq with
  | zero=>exact absurd HA.out (by simp [numnahref07_Claims.j0])
  | succ e6 =>
   have H:=HA.out
   clear HA
   simp only [numnahref07_Claims.j0] at H
   by_cases c5:b5 = true
   ·subst c5
    rw [if_pos rfl] at H
    obtain rfl:=Option.some.inj H
    go_wp2
    go_ret
    exact ⟨by first | rfl | (simp;done) | (simp [*];done),by repeat (first | exact Drawn0.refl _ | apply Drawn0.step)⟩
   replace c5:=Bool.eq_false_iff.mpr c5
   subst c5
   rw [if_neg (show ¬ (false = true) by decide)] at H
   have H':=A_ H
   clear H
   go_wp2
   go_loopg [5] e6 (fun kq v5 w'=>∃ (b0:Int),v5 = .int .i64 b0 ∧ Aside0 (numnahref07_Claims.l0 kq l0 a1 b0 = some r) ∧ Aside0 (kq ≤ e6) ∧ Drawn0 w w')
   case atStart=>exact ⟨(0),(by first | rfl | (simp;done) | (simp [*];done)),H',⟨Nat.le_refl _⟩,by repeat (first | exact Drawn0.refl _ | apply Drawn0.step)⟩
   case round =>
    clear H'
    obtain ⟨b0,rfl,HA,e7,⟨m2,rfl⟩⟩:=hrel
    cases gk with
    | zero=>exact absurd HA.out (by simp [numnahref07_Claims.l0])
    | succ k2 =>
     have H:=HA.out
     clear HA
     simp only [numnahref07_Claims.l0] at H
     by_cases c6:b0 < (l0.length:Int)
     case neg =>
      rw [if_neg c6] at H
      have e0:=decide_eq_false c6
      clear c6
      by_cases c10:a1 ≥ 0
      case neg =>
       rw [if_neg c10] at H
       have d4:=decide_eq_false c10
       clear c10
       obtain rfl:=Option.some.inj H
       go_wp2
       go_ret
       exact ⟨by first | rfl | (simp;done) | (simp [*];done),by repeat (first | exact Drawn0.refl _ | apply Drawn0.step)⟩
      rw [if_pos c10] at H
      have d4:=decide_eq_true c10
      clear c10
      replace H:=Option.bind_eq_some_iff.mp H
      obtain ⟨d0,d5,H⟩:=H
      replace H:(some (decide (a1 ≤ d0))) = some r:=H
      have h0:=A_ d5
      clear d5
      obtain rfl:=Option.some.inj H
      go_wp2_with (first | (go_at_call 65;(with_reducible refine (numnahref07_total.calls k2 _ _ l0 d0 _ ?side1 ?side2 h0.out).mono ?_);(case side1=>repeat (first | exact d3.out | (with_reducible refine Kd.C_alloc ?_ _) | (with_reducible refine Kd.C_drewN ?_ _) | (with_reducible refine Kd.C_drew ?_)));(case side2=>exact e8.out);rintro e w' ⟨rfl,⟨nd,rfl⟩⟩))
      go_ret
      exact ⟨by first | rfl | (simp;done) | (simp [*];done),by repeat (first | exact Drawn0.refl _ | apply Drawn0.step)⟩
     rw [if_pos c6] at H
     have e0:=decide_eq_true c6
     clear c6
     replace H:=gd H
     obtain ⟨c7,H⟩:=H
     have h1:=decide_eq_true c7
     clear c7
     by_cases c8:(rd l0 b0) < 0
     ·rw [if_pos c8] at H
      have e1:=decide_eq_true c8
      clear c8
      obtain rfl:=Option.some.inj H
      have b1:0 ≤ (b0:Int):=of_decide_eq_true (by first | (with_reducible assumption) | assumption)
      have b2:b0 < (l0.length:Int):=of_decide_eq_true (by first | (with_reducible assumption) | assumption)
      obtain ⟨b6,b9,b7⟩:=Kd.at_int d3.out b0 b1 b2
      cases b9
      replace b1:=eq_true b1
      replace b2:=eq_true b2
      go_wp2
      go_ret
      exact ⟨by first | rfl | (simp;done) | (simp [*];done),by repeat (first | exact Drawn0.refl _ | apply Drawn0.step)⟩
     rw [if_neg c8] at H
     have e1:=decide_eq_false c8
     clear c8
     by_cases c9:(rd l0 b0) > 1000
     ·rw [if_pos c9] at H
      have e2:=decide_eq_true c9
      clear c9
      obtain rfl:=Option.some.inj H
      have b1:0 ≤ (b0:Int):=of_decide_eq_true (by first | (with_reducible assumption) | assumption)
      have b2:b0 < (l0.length:Int):=of_decide_eq_true (by first | (with_reducible assumption) | assumption)
      obtain ⟨b6,b9,b7⟩:=Kd.at_int d3.out b0 b1 b2
      cases b9
      replace b1:=eq_true b1
      replace b2:=eq_true b2
      have b3:0 ≤ (b0:Int):=of_decide_eq_true (by first | (with_reducible assumption) | assumption)
      have b4:b0 < (l0.length:Int):=of_decide_eq_true (by first | (with_reducible assumption) | assumption)
      obtain ⟨c1,d2,d1⟩:=Kd.at_int d3.out b0 b3 b4
      obtain rfl:b6 = c1:=(by injection d2)
      replace b3:=eq_true b3
      replace b4:=eq_true b4
      go_wp2
      go_ret
      exact ⟨by first | rfl | (simp;done) | (simp [*];done),by repeat (first | exact Drawn0.refl _ | apply Drawn0.step)⟩
     rw [if_neg c9] at H
     have e2:=decide_eq_false c9
     clear c9
     have H':=A_ H
     clear H
     have b1:0 ≤ (b0:Int):=of_decide_eq_true (by first | (with_reducible assumption) | assumption)
     have b2:b0 < (l0.length:Int):=of_decide_eq_true (by first | (with_reducible assumption) | assumption)
     obtain ⟨b6,b9,b7⟩:=Kd.at_int d3.out b0 b1 b2
     cases b9
     replace b1:=eq_true b1
     replace b2:=eq_true b2
     have b3:0 ≤ (b0:Int):=of_decide_eq_true (by first | (with_reducible assumption) | assumption)
     have b4:b0 < (l0.length:Int):=of_decide_eq_true (by first | (with_reducible assumption) | assumption)
     obtain ⟨c1,d2,d1⟩:=Kd.at_int d3.out b0 b3 b4
     obtain rfl:b6 = c1:=(by injection d2)
     replace b3:=eq_true b3
     replace b4:=eq_true b4
     go_wp2
     go_roundg k2
     case measure=>have:=e5.out;have:=e7.out;omega
     case rel=>exact ⟨(wrap64 (b0 + 1)),(by first | rfl | (simp;done) | (simp [*];done)),H',⟨by have:=e5.out;have:=e7.out;omega⟩,by repeat (first | exact Drawn0.refl _ | apply Drawn0.step)⟩
end Go.Proofs.Ytjohcjfmlhihbaa.G
namespace Go.Proofs.Ytjohcjfmlhihbaa.P
open Go Go.RowKit Go.Proofs.Ytjohcjfmlhihbaa.G
open Go.Proofs.YtjohcjfmlhihbaaW.PrintWords Go.Proofs.YtjohcjfmlhihbaaW.PrintMore
theorem rd_get {l:List Int} {i:Nat} (h:i < l.length):rd l (i:Int) = l[i]:=by unfold rd;simp [h]
theorem wrap_succ {i:Nat} (h:i < 9223372036854775807):wrap64 ((i:Int) + 1) = ((i + 1:Nat):Int):=by unfold wrap64;omega
def sI (l:List Int):Int:=l.foldr (· + ·) 0
theorem sI_cons (a:Int) (l:List Int):sI (a :: l) = a + sI l:=rfl
theorem sI_append (l m:List Int):sI (l ++ m) = sI l + sI m:=by
 induction l with
 | nil=>simp [sI]
 | cons a l ih=>rw [List.cons_append,sI_cons,sI_cons,ih];omega
theorem sI_bound {l:List Int} (h:∀ x ∈ l,0 ≤ x ∧ x ≤ 1000):0 ≤ sI l ∧ sI l ≤ 1000 * (l.length:Int):=by
 induction l with
 | nil=>simp [sI]
 | cons a l ih =>
  have h1:=h a (by simp)
  have h2:=ih (fun x hx=>h x (List.mem_cons_of_mem _ hx))
  rw [sI_cons,List.length_cons]
  omega
section
variable {l:List Int} (hb:∀ x ∈ l,0 ≤ x ∧ x ≤ 1000) (hl:l.length ≤ 1000000)
include hb hl
theorem total_l0:∀ (d i:Nat),i + d = l.length → Ev (fun k=>shares_total.l0 k (sI (l.take i)) l (l.length:Int) (i:Int)) (sI l):=by
 intro d
 induction d with
 | zero =>
  intro i hi
  refine Ev.step (f:=fun _=>some (sI l)) (fun k=>?_) (Ev.now _)
  rw [shares_total.l0,if_neg (by omega),List.take_of_length_le (by omega)]
 | succ d ih =>
  intro i hi
  have hil:i < l.length:=by omega
  refine Ev.step (fun k=>?_) (ih (i + 1) (by omega))
  have h1:=(sI_bound (l:=l.take (i + 1)) (fun x hx=>hb x (List.mem_of_mem_take hx)))
  have h2:(l.take (i + 1)).length ≤ 1000000:=by rw [List.length_take];omega
  have e:sI (l.take i) + l[i] = sI (l.take (i + 1)):=by rw [List.take_succ_eq_append_getElem hil,sI_append];simp [sI]
  rw [shares_total.l0,if_pos (by omega),if_pos (by omega),if_pos (by omega),rd_get hil,e,wrap_id (by omega) (by omega),wrap_succ (by omega)]
theorem ev_total:Ev (fun k=>shares_total.f k l) (sI l):=total_l0 hb hl l.length 0 (by omega)
theorem rtotal_l0:∀ (d i:Nat),i + d = l.length → Ev (fun k=>numnahref07_total.l0 k l (sI (l.take i)) (i:Int)) (sI l):=by
 intro d
 induction d with
 | zero =>
  intro i hi
  refine Ev.step (f:=fun _=>some (sI l)) (fun k=>?_) (Ev.now _)
  rw [numnahref07_total.l0,if_neg (by omega),List.take_of_length_le (by omega)]
 | succ d ih =>
  intro i hi
  have hil:i < l.length:=by omega
  refine Ev.step (fun k=>?_) (ih (i + 1) (by omega))
  have h1:=(sI_bound (l:=l.take (i + 1)) (fun x hx=>hb x (List.mem_of_mem_take hx)))
  have h2:(l.take (i + 1)).length ≤ 1000000:=by rw [List.length_take];omega
  have e:sI (l.take i) + l[i] = sI (l.take (i + 1)):=by rw [List.take_succ_eq_append_getElem hil,sI_append];simp [sI]
  rw [numnahref07_total.l0,if_pos (by omega),if_pos (by omega),rd_get hil,e,wrap_id (by omega) (by omega),wrap_succ (by omega)]
theorem ev_rtotal:Ev (fun k=>numnahref07_total.f k l) (sI l):=rtotal_l0 hb hl l.length 0 (by omega)
end
structure IsCl (l:List Int):Prop where
 one:1 ≤ l.length
 ten:l.length ≤ 10
 mem:∀ x ∈ l,0 ≤ x ∧ x ≤ 1000
instance (l:List Int):Decidable (IsCl l):=decidable_of_iff (1 ≤ l.length ∧ l.length ≤ 10 ∧ ∀ x ∈ l,0 ≤ x ∧ x ≤ 1000) ⟨fun h=>⟨h.1,h.2.1,h.2.2⟩,fun h=>⟨h.1,h.2,h.3⟩⟩
def clB (l:List Int) (e:Int):Bool:=decide (IsCl l ∧ 0 ≤ e ∧ e ≤ sI l)
theorem areClaims_eq {l:List Int} (hf:H.fitL l):shares_areClaims.f l = some (decide (IsCl l)):=by
 unfold shares_areClaims.f shares_within.f contains119.f
 rw [if_pos hf]
 simp only [Option.bind_some]
 by_cases h1:(l.length:Int) ≥ 1
 ·rw [if_pos h1]
  simp only [Option.bind_some]
  by_cases h2:(l.length:Int) ≤ 10
  ·rw [if_pos (decide_eq_true h2)]
   congr 1
   by_cases h3:∀ x ∈ l,0 ≤ x ∧ x ≤ 1000
   ·rw [decide_eq_true (⟨by omega,by omega,h3⟩:IsCl l)]
    rw [Bool.not_eq_true',List.any_eq_false]
    intro x hx
    simpa using h3 x hx
   ·rw [decide_eq_false (fun h:IsCl l=>h3 h.mem)]
    rw [Bool.not_eq_false',List.any_eq_true]
    apply Classical.byContradiction
    intro hno
    refine h3 fun x hx=>Classical.byContradiction fun hx2=>hno ⟨x,hx,?_⟩
    rw [Bool.not_eq_true',decide_eq_false_iff_not]
    exact hx2
  ·rw [if_neg (by simpa using h2),decide_eq_false (fun h:IsCl l=>h2 (by have:=h.ten;omega))]
 ·rw [if_neg h1]
  simp only [Option.bind_some]
  rw [if_neg (by decide),decide_eq_false (fun h:IsCl l=>h1 (by have:=h.one;omega))]
theorem ev_newClaims {l:List Int} (hf:H.fitL l) (e:Int):Ev (fun k=>newClaimsR.f k l e) (clB l e):=by
 unfold newClaimsR.f shares_newClaims.f
 rw [areClaims_eq hf]
 simp only [Option.bind_some]
 unfold clB
 by_cases h:IsCl l
 ·simp only [h,decide_true,if_true,true_and]
  obtain ⟨K,hK⟩:=ev_total h.mem (by have:=h.ten;omega)
  refine ⟨K,fun k hk=>?_⟩
  have hk':shares_total.f k l = some (sI l):=hK k hk
  show Option.map _ _ = _
  rw [hk']
  simp only [Option.bind_some,shares_within.f]
  by_cases h0:e ≥ 0
  ·rw [if_pos h0]
   simp only [Option.bind_some,Option.map_some]
   congr 1
   rw [Bool.eq_iff_iff,decide_eq_true_iff,decide_eq_true_iff]
   exact ⟨fun k=>⟨h0,k⟩,fun k=>k.2⟩
  ·rw [if_neg h0]
   simp only [Option.bind_some,Option.map_some]
   rw [decide_eq_false (fun k=>h0 k.1)]
 ·refine ⟨0,fun k _=>?_⟩
  simp [h]
theorem rclaims_l0 {l:List Int} (hl:1 ≤ l.length ∧ l.length ≤ 10) (e:Int):∀ (d i:Nat),i + d = l.length → (∀ x ∈ l.take i,0 ≤ x ∧ x ≤ 1000) → Ev (fun k=>numnahref07_Claims.l0 k l e (i:Int)) (clB l e):=by
 intro d
 induction d with
 | zero =>
  intro i hi hm
  rw [List.take_of_length_le (by omega)] at hm
  have hc:IsCl l:=⟨hl.1,hl.2,hm⟩
  unfold clB
  simp only [hc,true_and]
  by_cases h0:e ≥ 0
  ·refine Ev.step (f:=fun k=>(numnahref07_total.f k l).bind fun t=>some (decide (e ≤ t))) (fun k=>?_) (Ev.bind (ev_rtotal hm (by omega)) ?_)
   ·rw [numnahref07_Claims.l0,if_neg (by omega),if_pos h0]
   ·have:decide (0 ≤ e ∧ e ≤ sI l) = decide (e ≤ sI l):=by
     rw [Bool.eq_iff_iff,decide_eq_true_iff,decide_eq_true_iff]
     exact ⟨fun k=>k.2,fun k=>⟨h0,k⟩⟩
    rw [this]
    exact Ev.now _
  ·refine Ev.step (f:=fun _=>some false) (fun k=>?_) ?_
   ·rw [numnahref07_Claims.l0,if_neg (by omega),if_neg h0]
   ·rw [decide_eq_false (fun k=>h0 k.1)]
    exact Ev.now _
 | succ d ih =>
  intro i hi hm
  have hil:i < l.length:=by omega
  by_cases g:0 ≤ l[i] ∧ l[i] ≤ 1000
  ·refine Ev.step (fun k=>?_) (ih (i + 1) (by omega) (fun x hx=>?_))
   ·rw [numnahref07_Claims.l0,if_pos (by omega),if_pos (by omega),rd_get hil,if_neg (by omega),if_neg (by omega),wrap_succ (by omega)]
   ·rw [List.take_succ_eq_append_getElem hil,List.mem_append] at hx
    rcases hx with hx | hx
    ·exact hm x hx
    ·rw [List.mem_singleton] at hx
     rw [hx];exact g
  ·have hc:clB l e = false:=decide_eq_false (fun h=>g (h.1.mem _ (List.getElem_mem hil)))
   rw [hc]
   refine Ev.step (f:=fun _=>some false) (fun k=>?_) (Ev.now _)
   rw [numnahref07_Claims.l0,if_pos (by omega),if_pos (by omega),rd_get hil]
   by_cases g1:l[i] < 0
   ·rw [if_pos g1]
   ·rw [if_neg g1,if_pos (by omega)]
theorem ev_rclaims (l:List Int) (e:Int):Ev (fun k=>numnahref07_Claims.f k l e) (clB l e):=by
 unfold numnahref07_Claims.f
 by_cases h1:(l.length:Int) < 1
 ·simp only [if_pos h1]
  have hc:clB l e = false:=decide_eq_false (fun h=>by have:=h.1.one;omega)
  rw [hc]
  exact Ev.step (f:=fun _=>some false) (fun k=>by rw [numnahref07_Claims.j0,if_pos rfl]) (Ev.now _)
 ·simp only [if_neg h1]
  by_cases h2:(l.length:Int) > 10
  ·have hc:clB l e = false:=decide_eq_false (fun h=>by have:=h.1.ten;omega)
   rw [hc,decide_eq_true h2]
   exact Ev.step (f:=fun _=>some false) (fun k=>by rw [numnahref07_Claims.j0,if_pos rfl]) (Ev.now _)
  ·rw [decide_eq_false h2]
   refine Ev.step (fun k=>by rw [numnahref07_Claims.j0,if_neg (by decide)];rfl) (rclaims_l0 (by omega) e l.length 0 (by omega) (by simp))
end Go.Proofs.Ytjohcjfmlhihbaa.P
namespace Go.Proofs.Ytjohcjfmlhihbaa.G
open Go.RowKit Go.Proofs.YtjohcjfmlhihbaaW.PrintWords Go.Proofs.YtjohcjfmlhihbaaW.PrintLast Go.Proofs.YtjohcjfmlhihbaaW.PrintMore
set_option maxHeartbeats 8000000
set_option maxRecDepth 100000
attribute [local go_sem] cond_true cond_false fld23_0 fld23_1 fld45_0 fld45_1 fld109_0 fld109_1 fld94_0 fld94_1 max2_int min2_int max_two min_two max_three min_three max_four min_four
def numnahref07_rest.f (k:Nat) (b3:Int) (b4:Int) (a1:Int):Option (Int × Int):=(numnahref07_Whole.f a1).bind fun c1=>((numnahref07_Less.f c1.1 c1.2 b3 b4).bind fun d0=>(if d0 = true then ((numnahref07_Whole.f a1).bind fun b7=>((numnahref07_Sub.f k b3 b4 b7.1 b7.2).bind fun b8=>(some (b8.1,b8.2)))) else ((numnahref07_Whole.f 0).bind fun b9=>(some (b9.1,b9.2)))))
theorem numnahref07_rest.mono:∀ a0 a1 a2 k,LeO (numnahref07_rest.f k a0 a1 a2) (numnahref07_rest.f (k + 1) a0 a1 a2):=by
 intro a0 a1 a2 k
 unfold numnahref07_rest.f
 repeat' first
   | (with_reducible first | exact numnahref07_Sub.mono _ _ _ _ _ | exact LeO.refl _ | exact LeO.none _ | refine LeO.ite ?_ ?_ | refine LeO.bind ?_ (fun _=>?_))
   | exact LeO.none _ | refine LeO.ite ?_ ?_ | refine LeO.bind ?_ (fun _=>?_)
theorem numnahref07_rest.calls (k:Nat) (b3:Int) (b4:Int) (a1:Int) (r1:Int) (r2:Int) (w:World) (h:numnahref07_rest.f k b3 b4 a1 = some (r1,r2)) :
  Calls Try.prog 66 #[.agg #[.int .i64 b3,.int .i64 b4],.int .i64 a1] w fun e w'=>e = .returned (.agg #[.int .i64 r1,.int .i64 r2]) ∧ Below w.heap.size w w':=by
 have h8:=Try.underlying23
 have HB:=A_ (Below.refl w.heap.size w)
 have H:((numnahref07_Whole.f a1).bind fun c1=>((numnahref07_Less.f c1.1 c1.2 b3 b4).bind fun d0=>(if d0 = true then ((numnahref07_Whole.f a1).bind fun b7=>((numnahref07_Sub.f k b3 b4 b7.1 b7.2).bind fun b8=>(some (b8.1,b8.2)))) else ((numnahref07_Whole.f 0).bind fun b9=>(some (b9.1,b9.2)))))) = some (r1,r2):=h
 clear h
 replace H:=Option.bind_eq_some_iff.mp H
 obtain ⟨⟨d1,d2⟩,A30,H⟩:=H
 dsimp only at H
 have A3:=A_ A30
 clear A30
 replace H:=Option.bind_eq_some_iff.mp H
 obtain ⟨d0,h1,H⟩:=H
 replace H:(if d0 = true then ((numnahref07_Whole.f a1).bind fun b7=>((numnahref07_Sub.f k b3 b4 b7.1 b7.2).bind fun b8=>(some (b8.1,b8.2)))) else ((numnahref07_Whole.f 0).bind fun b9=>(some (b9.1,b9.2)))) = some (r1,r2):=H
 have A4:=A_ h1
 clear h1
 by_cases c5:d0 = true
 case neg =>
  replace c5:=Bool.eq_false_iff.mpr c5
  subst c5
  rw [if_neg (show ¬ (false = true) by decide)] at H
  replace H:=Option.bind_eq_some_iff.mp H
  obtain ⟨⟨d5,d9⟩,A180,H⟩:=H
  dsimp only at H
  have h9:=A_ A180
  clear A180
  simp only [Option.some.injEq,Prod.mk.injEq] at H
  obtain ⟨rfl,rfl⟩:=H
  go_enter Try.func66,Try.ntmps66
  try go_wp2_with (first | ((with_reducible refine gate_dst (N:=2) rfl ?_);refine bx 2 #[.int .i64 b3,.int .i64 b4] 23 ?_;intro c0 hg i4 hbox hb;have b0:=A_ hbox;have d3:=gw hg HB;have e0:=d3;replace HB:=bB HB hb;clear hb hbox hg) | ((with_reducible refine gate_dst (N:=4) rfl ?_);refine bx 4 #[.int .i64 0,.int .i64 0] 23 ?_;intro b5 hg i0 hbox hb;have b1:=A_ hbox;have d4:=gw hg HB;have e1:=d4;have b2:=nl hg b0;have b6:=ng hg b0;replace b0:=kB b0 hb;replace HB:=bB HB hb;clear hb hbox hg))
  replace b0:=kD b0
  replace b1:=kD b1
  replace HB:=bD HB
  refine start_ (n:=4) (S:=fun w'=>w'.cell? ⟨c0,0,none⟩ = some (.int .i64 b3) ∧ w'.cell? ⟨c0,1,none⟩ = some (.int .i64 b4)) (ds:=[]) (ba 4 0) (by kernel_rfl) rfl rfl ⟨cz b0 0,cz b0 1⟩ (fun hHeld=>?_)
  generalize i0.drew = i5 at b0 b1 HB hHeld ⊢
  refine pr 0 5 1 ?_
  refine tr 2 7 5 hHeld ?_
  refine os 1 6 7 (fun K hK=>?_)
  refine gq Try.func23 #[.int .i64 a1] ?_
  with_reducible refine (numnahref07_Whole.calls a1 d1 d2 _ A3.out).mono ?_
  rintro e i6 ⟨rfl,hb⟩
  refine ⟨_,rfl,?_⟩
  replace b0:=kB b0 hb
  replace b1:=kB b1 hb
  replace HB:=bB HB hb
  (try clear hb)
  refine hz hK (fun hHeld=>?_)
  clear hK K
  refine nq 6 ?_
  refine os 3 8 15 (fun K hK=>?_)
  refine gq Try.func30 #[.agg #[.int .i64 d1,.int .i64 d2],.agg #[.int .i64 b3,.int .i64 b4]] ?_
  with_reducible refine (numnahref07_Less.calls d1 d2 b3 b4 false _ A4.out).mono ?_
  rintro e i7 ⟨rfl,hb⟩
  refine ⟨_,rfl,?_⟩
  replace b0:=kB b0 hb
  replace b1:=kB b1 hb
  replace HB:=bB HB hb
  (try clear hb)
  refine hz hK (fun hHeld=>?_)
  clear hK K
  refine nq 8 ?_
  refine done_ (by kernel_rfl) ?_
  try go_wp2_with (first | ((with_reducible refine gate_callee (f:=23) rfl ?_);refine gL (some 13) Try.func23 #[.int .i64 0] ?_;(with_reducible refine (numnahref07_Whole.calls 0 d5 d9 _ h9.out).mono ?_);rintro e h2 ⟨rfl,hb⟩;refine ⟨_,rfl,?_⟩;replace b0:=kB b0 hb;replace b1:=kB b1 hb;replace HB:=bB HB hb;(try clear hb);have h3:=b6.out;have h4:=b2.out;have e3:h2.cell? ⟨b5,0,none⟩ = some (.int .i64 0):=cz b1 0;have e4:h2.cell? ⟨b5,1,none⟩ = some (.int .i64 0):=cz b1 1;have e5:=blk_frozen b1.out 0;have e6:=blk_frozen b1.out 1))
  refine bodyPost_ret (results_cell_row rfl _ _ b5 23 #[.int .i64 d5,.int .i64 d9] (0,0) _ rfl (by (with_reducible repeat (first | refine blk_drewN ?_ _ | refine blk_drew ?_ | refine blk_alloc ?_ _));refine blk_put (cs:=#[.int .i64 d5,.int .i64 0]) ?_ 1 _ rfl;(with_reducible repeat (first | refine blk_drewN ?_ _ | refine blk_drew ?_ | refine blk_alloc ?_ _));refine blk_put (cs:=#[.int .i64 0,.int .i64 0]) ?_ 0 _ rfl;(with_reducible repeat (first | refine blk_drewN ?_ _ | refine blk_drew ?_ | refine blk_alloc ?_ _));exact b1.out) Try.underlying23 rfl (by kernel_rfl)) rfl ?_
  exact ⟨rfl,bl HB⟩
 subst c5
 rw [if_pos rfl] at H
 replace H:=Option.bind_eq_some_iff.mp H
 obtain ⟨⟨d6,d7⟩,A60,H⟩:=H
 dsimp only at H
 have A6:=A_ A60
 clear A60
 replace H:=Option.bind_eq_some_iff.mp H
 obtain ⟨⟨d8,e2⟩,A70,H⟩:=H
 dsimp only at H
 have A7:=A_ A70
 clear A70
 simp only [Option.some.injEq,Prod.mk.injEq] at H
 obtain ⟨rfl,rfl⟩:=H
 go_enter Try.func66,Try.ntmps66
 try go_wp2_with (first | ((with_reducible refine gate_dst (N:=2) rfl ?_);refine bx 2 #[.int .i64 b3,.int .i64 b4] 23 ?_;intro c0 hg w8 hbox hb;have b0:=A_ hbox;have d3:=gw hg HB;have e0:=d3;replace HB:=bB HB hb;clear hb hbox hg) | ((with_reducible refine gate_dst (N:=4) rfl ?_);refine bx 4 #[.int .i64 0,.int .i64 0] 23 ?_;intro b5 hg w9 hbox hb;have b1:=A_ hbox;have d4:=gw hg HB;have e1:=d4;have b2:=nl hg b0;have b6:=ng hg b0;replace b0:=kB b0 hb;replace HB:=bB HB hb;clear hb hbox hg))
 replace b0:=kD b0
 replace b1:=kD b1
 replace HB:=bD HB
 refine start_ (n:=4) (S:=fun w'=>w'.cell? ⟨c0,0,none⟩ = some (.int .i64 b3) ∧ w'.cell? ⟨c0,1,none⟩ = some (.int .i64 b4)) (ds:=[]) (ba 4 0) (by kernel_rfl) rfl rfl ⟨cz b0 0,cz b0 1⟩ (fun hHeld=>?_)
 generalize w9.drew = i8 at b0 b1 HB hHeld ⊢
 refine pr 0 5 1 ?_
 refine tr 2 7 5 hHeld ?_
 refine os 1 6 7 (fun K hK=>?_)
 refine gq Try.func23 #[.int .i64 a1] ?_
 with_reducible refine (numnahref07_Whole.calls a1 d1 d2 _ A3.out).mono ?_
 rintro e i9 ⟨rfl,hb⟩
 refine ⟨_,rfl,?_⟩
 replace b0:=kB b0 hb
 replace b1:=kB b1 hb
 replace HB:=bB HB hb
 (try clear hb)
 refine hz hK (fun hHeld=>?_)
 clear hK K
 refine nq 6 ?_
 refine os 3 8 15 (fun K hK=>?_)
 refine gq Try.func30 #[.agg #[.int .i64 d1,.int .i64 d2],.agg #[.int .i64 b3,.int .i64 b4]] ?_
 with_reducible refine (numnahref07_Less.calls d1 d2 b3 b4 true _ A4.out).mono ?_
 rintro e i1 ⟨rfl,hb⟩
 refine ⟨_,rfl,?_⟩
 replace b0:=kB b0 hb
 replace b1:=kB b1 hb
 replace HB:=bB HB hb
 (try clear hb)
 refine hz hK (fun hHeld=>?_)
 clear hK K
 refine nq 8 ?_
 refine done_ (by kernel_rfl) ?_
 try go_wp2
 replace b0:=kD b0
 replace b1:=kD b1
 replace HB:=bD HB
 refine start_ (n:=5) (S:=fun w'=>w'.cell? ⟨c0,0,none⟩ = some (.int .i64 b3) ∧ w'.cell? ⟨c0,1,none⟩ = some (.int .i64 b4)) (ds:=[]) (ba 5 0) (by kernel_rfl) rfl rfl ⟨cz b0 0,cz b0 1⟩ (fun hHeld=>?_)
 generalize i1.drew = j5 at b0 b1 HB hHeld ⊢
 refine pr 1 10 2 ?_
 refine tr 0 9 3 hHeld ?_
 refine os 2 11 7 (fun K hK=>?_)
 refine gq Try.func23 #[.int .i64 a1] ?_
 with_reducible refine (numnahref07_Whole.calls a1 d6 d7 _ A6.out).mono ?_
 rintro e j7 ⟨rfl,hb⟩
 refine ⟨_,rfl,?_⟩
 replace b0:=kB b0 hb
 replace b1:=kB b1 hb
 replace HB:=bB HB hb
 (try clear hb)
 refine hz hK (fun hHeld=>?_)
 clear hK K
 refine nq 11 ?_
 refine os 3 12 15 (fun K hK=>?_)
 refine gq Try.func31 #[.agg #[.int .i64 b3,.int .i64 b4],.agg #[.int .i64 d6,.int .i64 d7]] ?_
 with_reducible refine (numnahref07_Sub.calls k b3 b4 d6 d7 d8 e2 _ A7.out).mono ?_
 rintro e h5 ⟨rfl,hb⟩
 refine ⟨_,rfl,?_⟩
 replace b0:=kB b0 hb
 replace b1:=kB b1 hb
 replace HB:=bB HB hb
 (try clear hb)
 refine hz hK (fun hHeld=>?_)
 clear hK K
 refine nq 12 ?_
 refine one_ (i:=4) (N:=none) (ba 5 31) rfl rfl (by kernel_rfl) (by decide) (fun K hK=>?_)
 have i2:h5.cell? ⟨b5,0,none⟩ = some (.int .i64 0):=cz b1 0
 have h6:=blk_frozen b1.out 0
 have e7:=b2.out
 have e8:=b6.out
 have i3:h5.cell? ⟨b5,1,none⟩ = some (.int .i64 0):=cz b1 1
 have h7:=blk_frozen b1.out 1
 have e9:=b2.out
 have h0:=b6.out
 refine skip_ (w1:=?_) (by rfl) rfl ?_ ?_
 rotate_left
 ·go_simp
  rfl
 refine hK.out _ _ ⟨((cell_far (p:=⟨b5,_,none⟩) b2.out _).trans (((cell_far (p:=⟨b5,_,none⟩) b2.out _).trans (hHeld.1)))),((cell_far (p:=⟨b5,_,none⟩) b2.out _).trans (((cell_far (p:=⟨b5,_,none⟩) b2.out _).trans (hHeld.2))))⟩ (fun hHeld=>?_)
 clear hK K
 refine done_ (by kernel_rfl) ?_
 try go_wp2
 refine bodyPost_ret (results_cell_row rfl _ _ b5 23 #[.int .i64 d8,.int .i64 e2] (0,0) _ rfl (by (with_reducible repeat (first | refine blk_drewN ?_ _ | refine blk_drew ?_ | refine blk_alloc ?_ _));refine blk_put (cs:=#[.int .i64 d8,.int .i64 0]) ?_ 1 _ rfl;(with_reducible repeat (first | refine blk_drewN ?_ _ | refine blk_drew ?_ | refine blk_alloc ?_ _));refine blk_put (cs:=#[.int .i64 0,.int .i64 0]) ?_ 0 _ rfl;(with_reducible repeat (first | refine blk_drewN ?_ _ | refine blk_drew ?_ | refine blk_alloc ?_ _));exact b1.out) Try.underlying23 rfl (by kernel_rfl)) rfl ?_
 exact ⟨rfl,bl HB⟩
def numnahref07_Garment.f (k:Nat) (d6:Int) (d7:Int) (a1:Int) (a2:Int):Option (Int × Int):=(numnahref07_rest.f k d6 d7 a2).bind fun h1=>((numnahref07_rest.f k d6 d7 a1).bind fun i5=>((numnahref07_Sub.f k d6 d7 h1.1 h1.2).bind fun i6=>((numnahref07_Sub.f k i6.1 i6.2 i5.1 i5.2).bind fun i7=>((numnahref07_Half.f k i7.1 i7.2).bind fun i8=>((numnahref07_Add.f k h1.1 h1.2 i8.1 i8.2).bind fun i9=>(some (i9.1,i9.2)))))))
theorem numnahref07_Garment.mono:∀ a0 a1 a2 a3 k,LeO (numnahref07_Garment.f k a0 a1 a2 a3) (numnahref07_Garment.f (k + 1) a0 a1 a2 a3):=by
 intro a0 a1 a2 a3 k
 unfold numnahref07_Garment.f
 repeat' first
   | (with_reducible first | exact numnahref07_Add.mono _ _ _ _ _ | exact numnahref07_Half.mono _ _ _ | exact numnahref07_Sub.mono _ _ _ _ _ | exact numnahref07_rest.mono _ _ _ _ | exact LeO.refl _ | exact LeO.none _ | refine LeO.ite ?_ ?_ | refine LeO.bind ?_ (fun _=>?_))
   | exact LeO.none _ | refine LeO.ite ?_ ?_ | refine LeO.bind ?_ (fun _=>?_)
def numnahref07_Garment.T1:Bool × List (List Nat × List Nat):=(true,[([],[]),([],[]),([0,1],[0,1]),([],[]),([],[]),([3,4,2],[3,4]),([],[]),([],[]),([6,2,5,0,1,2,6,7],[2,6]),([7,5,8,0,1,2,3,4,5,6,7,8],[5,7])])
def numnahref07_Garment.B1:List Nat:=[0,0,3,0,0,31,0,0,255,511]
theorem numnahref07_Garment.tab1:rtab .any (opsOf Try.f24 1) = numnahref07_Garment.T1:=by kernel_rfl
theorem numnahref07_Garment.bits1:waitsOk numnahref07_Garment.T1.2 numnahref07_Garment.B1 = true:=by kernel_rfl
def numnahref07_Garment.T2:Bool × List (List Nat × List Nat):=(true,[([],[]),([],[]),([],[]),([1,2],[1,2]),([],[]),([3,4,3],[3,4]),([5,5],[5]),([0,6,6],[0,6]),([7,7,0,1,2,3,4,5,6,7],[7])])
def numnahref07_Garment.B2:List Nat:=[0,0,0,6,0,30,62,127,255]
theorem numnahref07_Garment.tab2:rtab .any (opsOf Try.f24 2) = numnahref07_Garment.T2:=by kernel_rfl
theorem numnahref07_Garment.bits2:waitsOk numnahref07_Garment.T2.2 numnahref07_Garment.B2 = true:=by kernel_rfl
theorem numnahref07_Garment.calls (k:Nat) (d6:Int) (d7:Int) (a1:Int) (a2:Int) (r1:Int) (r2:Int) (w:World) (h:numnahref07_Garment.f k d6 d7 a1 a2 = some (r1,r2)) :
  Calls Try.prog 24 #[.agg #[.int .i64 d6,.int .i64 d7],.int .i64 a1,.int .i64 a2] w fun e w'=>e = .returned (.agg #[.int .i64 r1,.int .i64 r2]) ∧ Below w.heap.size w w':=by
 have s9:=Try.underlying23
 have HB:=A_ (Below.refl w.heap.size w)
 have H:((numnahref07_rest.f k d6 d7 a2).bind fun h1=>((numnahref07_rest.f k d6 d7 a1).bind fun i5=>((numnahref07_Sub.f k d6 d7 h1.1 h1.2).bind fun i6=>((numnahref07_Sub.f k i6.1 i6.2 i5.1 i5.2).bind fun i7=>((numnahref07_Half.f k i7.1 i7.2).bind fun i8=>((numnahref07_Add.f k h1.1 h1.2 i8.1 i8.2).bind fun i9=>(some (i9.1,i9.2)))))))) = some (r1,r2):=h
 clear h
 replace H:=Option.bind_eq_some_iff.mp H
 obtain ⟨⟨e2,e3⟩,A40,H⟩:=H
 dsimp only at H
 have A4:=A_ A40
 clear A40
 replace H:=Option.bind_eq_some_iff.mp H
 obtain ⟨⟨e5,e6⟩,A50,H⟩:=H
 dsimp only at H
 have A5:=A_ A50
 clear A50
 replace H:=Option.bind_eq_some_iff.mp H
 obtain ⟨⟨m5,m6⟩,A60,H⟩:=H
 dsimp only at H
 have A6:=A_ A60
 clear A60
 replace H:=Option.bind_eq_some_iff.mp H
 obtain ⟨⟨m7,m8⟩,A70,H⟩:=H
 dsimp only at H
 have A7:=A_ A70
 clear A70
 replace H:=Option.bind_eq_some_iff.mp H
 obtain ⟨⟨m9,n0⟩,A80,H⟩:=H
 dsimp only at H
 have A8:=A_ A80
 clear A80
 replace H:=Option.bind_eq_some_iff.mp H
 obtain ⟨⟨n1,n2⟩,A90,H⟩:=H
 dsimp only at H
 have A9:=A_ A90
 clear A90
 simp only [Option.some.injEq,Prod.mk.injEq] at H
 obtain ⟨rfl,rfl⟩:=H
 go_enter Try.func24,Try.ntmps24
 try go_wp2_with (first | ((with_reducible refine gate_dst (N:=3) rfl ?_);refine bx 3 #[.int .i64 d6,.int .i64 d7] 23 ?_;intro b0 hg x1 hbox hb;have b2:=A_ hbox;have n3:=gw hg HB;have r9:=n3;replace HB:=bB HB hb;clear hb hbox hg) | ((with_reducible refine gate_dst (N:=6) rfl ?_);refine bx 6 #[.int .i64 0,.int .i64 0] 23 ?_;intro b5 hg t0 hbox hb;have b1:=A_ hbox;have n4:=gw hg HB;have s0:=n4;have e4:=nl hg b2;have i1:=ng hg b2;replace b2:=kB b2 hb;replace HB:=bB HB hb;clear hb hbox hg))
 replace b2:=kD b2
 replace b1:=kD b1
 replace HB:=bD HB
 refine st 10 (fun w'=>w'.cell? ⟨b0,0,none⟩ = some (.int .i64 d6) ∧ w'.cell? ⟨b0,1,none⟩ = some (.int .i64 d7)) [] numnahref07_Garment.tab1 numnahref07_Garment.bits1 (fun hHeld HT_ HW_=>?_)
 generalize t0.drew = x2 at b2 b1 HB hHeld ⊢
 refine pq 1 10 2 HT_ ?_
 refine pq 4 13 18 HT_ ?_
 refine tq 0 9 19 HT_ HW_ hHeld ?_
 refine tq 3 12 27 HT_ HW_ hHeld ?_
 refine join_ (σ:=Nat × Nat) 2 (ba 10 255) (fun s_=>[(11,.agg #[.int .i64 e2,.int .i64 e3]),(14,.agg #[.int .i64 e5,.int .i64 e6]),(7,.pointer (some ⟨s_.1,0,none⟩)),(8,.pointer (some ⟨s_.2,0,none⟩))]) (fun s_ w'=>(w'.cell? ⟨b0,0,none⟩ = some (.int .i64 d6) ∧ w'.cell? ⟨b0,1,none⟩ = some (.int .i64 d7)) ∧ (w'.heap[b0]? = some (.cells #[.int .i64 d6,.int .i64 d7] 23 (0,0))) ∧ (w'.heap[b5]? = some (.cells #[.int .i64 0,.int .i64 0] 23 (0,0))) ∧ (w'.heap[s_.1]? = some (.cells #[.int .i64 0,.int .i64 0] 23 (0,0))) ∧ (w'.heap[s_.2]? = some (.cells #[.int .i64 0,.int .i64 0] 23 (0,0))) ∧ (w.heap.size ≤ s_.1) ∧ (w.heap.size ≤ s_.1) ∧ (b0 ≠ s_.1) ∧ (s_.1 ≠ b0) ∧ (b5 ≠ s_.1) ∧ (s_.1 ≠ b5) ∧ (s_.2 ≠ s_.1) ∧ (s_.1 ≠ s_.2) ∧ (w.heap.size ≤ s_.2) ∧ (w.heap.size ≤ s_.2) ∧ (b0 ≠ s_.2) ∧ (s_.2 ≠ b0) ∧ (b5 ≠ s_.2) ∧ (s_.2 ≠ b5) ∧ (Below w.heap.size w w')) ?_ ?_
 rotate_left
 ·intro h3
  refine join_ (σ:=Nat) 3 (ba 10 127) (fun s_=>[(11,.agg #[.int .i64 e2,.int .i64 e3]),(14,.agg #[.int .i64 e5,.int .i64 e6]),(7,.pointer (some ⟨s_,0,none⟩))]) (fun s_ w'=>(w'.cell? ⟨b0,0,none⟩ = some (.int .i64 d6) ∧ w'.cell? ⟨b0,1,none⟩ = some (.int .i64 d7)) ∧ (w'.heap[b0]? = some (.cells #[.int .i64 d6,.int .i64 d7] 23 (0,0))) ∧ (w'.heap[b5]? = some (.cells #[.int .i64 0,.int .i64 0] 23 (0,0))) ∧ (w'.heap[s_]? = some (.cells #[.int .i64 0,.int .i64 0] 23 (0,0))) ∧ (w.heap.size ≤ s_) ∧ (w.heap.size ≤ s_) ∧ (b0 ≠ s_) ∧ (s_ ≠ b0) ∧ (b5 ≠ s_) ∧ (s_ ≠ b5) ∧ (Below w.heap.size w w')) ?_ ?_
  rotate_left
  ·intro m0
   refine join_ (σ:=Nat) 3 (ba 10 191) (fun s_=>[(11,.agg #[.int .i64 e2,.int .i64 e3]),(14,.agg #[.int .i64 e5,.int .i64 e6]),(8,.pointer (some ⟨s_,0,none⟩))]) (fun s_ w'=>(w'.cell? ⟨b0,0,none⟩ = some (.int .i64 d6) ∧ w'.cell? ⟨b0,1,none⟩ = some (.int .i64 d7)) ∧ (w'.heap[b0]? = some (.cells #[.int .i64 d6,.int .i64 d7] 23 (0,0))) ∧ (w'.heap[b5]? = some (.cells #[.int .i64 0,.int .i64 0] 23 (0,0))) ∧ (w'.heap[s_]? = some (.cells #[.int .i64 0,.int .i64 0] 23 (0,0))) ∧ (w.heap.size ≤ s_) ∧ (w.heap.size ≤ s_) ∧ (b0 ≠ s_) ∧ (s_ ≠ b0) ∧ (b5 ≠ s_) ∧ (s_ ≠ b5) ∧ (Below w.heap.size w w')) ?_ ?_
   rotate_left
   ·intro m1
    refine join_ (σ:=Nat × Nat) 3 (ba 10 223) (fun s_=>[(11,.agg #[.int .i64 e2,.int .i64 e3]),(7,.pointer (some ⟨s_.1,0,none⟩)),(8,.pointer (some ⟨s_.2,0,none⟩))]) (fun s_ w'=>(w'.cell? ⟨b0,0,none⟩ = some (.int .i64 d6) ∧ w'.cell? ⟨b0,1,none⟩ = some (.int .i64 d7)) ∧ (w'.heap[b0]? = some (.cells #[.int .i64 d6,.int .i64 d7] 23 (0,0))) ∧ (w'.heap[b5]? = some (.cells #[.int .i64 0,.int .i64 0] 23 (0,0))) ∧ (w'.heap[s_.1]? = some (.cells #[.int .i64 0,.int .i64 0] 23 (0,0))) ∧ (w'.heap[s_.2]? = some (.cells #[.int .i64 0,.int .i64 0] 23 (0,0))) ∧ (w.heap.size ≤ s_.1) ∧ (w.heap.size ≤ s_.1) ∧ (b0 ≠ s_.1) ∧ (s_.1 ≠ b0) ∧ (b5 ≠ s_.1) ∧ (s_.1 ≠ b5) ∧ (s_.2 ≠ s_.1) ∧ (s_.1 ≠ s_.2) ∧ (w.heap.size ≤ s_.2) ∧ (w.heap.size ≤ s_.2) ∧ (b0 ≠ s_.2) ∧ (s_.2 ≠ b0) ∧ (b5 ≠ s_.2) ∧ (s_.2 ≠ b5) ∧ (Below w.heap.size w w')) ?_ ?_
    rotate_left
    ·intro i3
     refine join_ (σ:=Unit) 4 (ba 10 63) (fun s_=>[(11,.agg #[.int .i64 e2,.int .i64 e3]),(14,.agg #[.int .i64 e5,.int .i64 e6])]) (fun s_ w'=>(w'.cell? ⟨b0,0,none⟩ = some (.int .i64 d6) ∧ w'.cell? ⟨b0,1,none⟩ = some (.int .i64 d7)) ∧ (w'.heap[b0]? = some (.cells #[.int .i64 d6,.int .i64 d7] 23 (0,0))) ∧ (w'.heap[b5]? = some (.cells #[.int .i64 0,.int .i64 0] 23 (0,0))) ∧ (Below w.heap.size w w')) ?_ ?_
     rotate_left
     ·intro n5
      refine join_ (σ:=Nat) 4 (ba 10 95) (fun s_=>[(11,.agg #[.int .i64 e2,.int .i64 e3]),(7,.pointer (some ⟨s_,0,none⟩))]) (fun s_ w'=>(w'.cell? ⟨b0,0,none⟩ = some (.int .i64 d6) ∧ w'.cell? ⟨b0,1,none⟩ = some (.int .i64 d7)) ∧ (w'.heap[b0]? = some (.cells #[.int .i64 d6,.int .i64 d7] 23 (0,0))) ∧ (w'.heap[b5]? = some (.cells #[.int .i64 0,.int .i64 0] 23 (0,0))) ∧ (w'.heap[s_]? = some (.cells #[.int .i64 0,.int .i64 0] 23 (0,0))) ∧ (w.heap.size ≤ s_) ∧ (w.heap.size ≤ s_) ∧ (b0 ≠ s_) ∧ (s_ ≠ b0) ∧ (b5 ≠ s_) ∧ (s_ ≠ b5) ∧ (Below w.heap.size w w')) ?_ ?_
      rotate_left
      ·intro m2
       refine join_ (σ:=Nat) 4 (ba 10 159) (fun s_=>[(11,.agg #[.int .i64 e2,.int .i64 e3]),(8,.pointer (some ⟨s_,0,none⟩))]) (fun s_ w'=>(w'.cell? ⟨b0,0,none⟩ = some (.int .i64 d6) ∧ w'.cell? ⟨b0,1,none⟩ = some (.int .i64 d7)) ∧ (w'.heap[b0]? = some (.cells #[.int .i64 d6,.int .i64 d7] 23 (0,0))) ∧ (w'.heap[b5]? = some (.cells #[.int .i64 0,.int .i64 0] 23 (0,0))) ∧ (w'.heap[s_]? = some (.cells #[.int .i64 0,.int .i64 0] 23 (0,0))) ∧ (w.heap.size ≤ s_) ∧ (w.heap.size ≤ s_) ∧ (b0 ≠ s_) ∧ (s_ ≠ b0) ∧ (b5 ≠ s_) ∧ (s_ ≠ b5) ∧ (Below w.heap.size w w')) ?_ ?_
       rotate_left
       ·intro m3
        refine join_ (σ:=Nat × Nat) 4 (ba 10 219) (fun s_=>[(7,.pointer (some ⟨s_.1,0,none⟩)),(8,.pointer (some ⟨s_.2,0,none⟩))]) (fun s_ w'=>(w'.cell? ⟨b0,0,none⟩ = some (.int .i64 d6) ∧ w'.cell? ⟨b0,1,none⟩ = some (.int .i64 d7)) ∧ (w'.heap[b0]? = some (.cells #[.int .i64 d6,.int .i64 d7] 23 (0,0))) ∧ (w'.heap[b5]? = some (.cells #[.int .i64 0,.int .i64 0] 23 (0,0))) ∧ (w'.heap[s_.1]? = some (.cells #[.int .i64 0,.int .i64 0] 23 (0,0))) ∧ (w'.heap[s_.2]? = some (.cells #[.int .i64 0,.int .i64 0] 23 (0,0))) ∧ (w.heap.size ≤ s_.1) ∧ (w.heap.size ≤ s_.1) ∧ (b0 ≠ s_.1) ∧ (s_.1 ≠ b0) ∧ (b5 ≠ s_.1) ∧ (s_.1 ≠ b5) ∧ (s_.2 ≠ s_.1) ∧ (s_.1 ≠ s_.2) ∧ (w.heap.size ≤ s_.2) ∧ (w.heap.size ≤ s_.2) ∧ (b0 ≠ s_.2) ∧ (s_.2 ≠ b0) ∧ (b5 ≠ s_.2) ∧ (s_.2 ≠ b5) ∧ (Below w.heap.size w w')) ?_ ?_
        rotate_left
        ·intro m4
         refine join_ (σ:=Unit) 5 (ba 10 31) (fun s_=>[(11,.agg #[.int .i64 e2,.int .i64 e3])]) (fun s_ w'=>(w'.cell? ⟨b0,0,none⟩ = some (.int .i64 d6) ∧ w'.cell? ⟨b0,1,none⟩ = some (.int .i64 d7)) ∧ (w'.heap[b0]? = some (.cells #[.int .i64 d6,.int .i64 d7] 23 (0,0))) ∧ (w'.heap[b5]? = some (.cells #[.int .i64 0,.int .i64 0] 23 (0,0))) ∧ (Below w.heap.size w w')) ?_ ?_
         rotate_left
         ·intro t1
          refine join_ (σ:=Nat) 5 (ba 10 91) (fun s_=>[(7,.pointer (some ⟨s_,0,none⟩))]) (fun s_ w'=>(w'.cell? ⟨b0,0,none⟩ = some (.int .i64 d6) ∧ w'.cell? ⟨b0,1,none⟩ = some (.int .i64 d7)) ∧ (w'.heap[b0]? = some (.cells #[.int .i64 d6,.int .i64 d7] 23 (0,0))) ∧ (w'.heap[b5]? = some (.cells #[.int .i64 0,.int .i64 0] 23 (0,0))) ∧ (w'.heap[s_]? = some (.cells #[.int .i64 0,.int .i64 0] 23 (0,0))) ∧ (w.heap.size ≤ s_) ∧ (w.heap.size ≤ s_) ∧ (b0 ≠ s_) ∧ (s_ ≠ b0) ∧ (b5 ≠ s_) ∧ (s_ ≠ b5) ∧ (Below w.heap.size w w')) ?_ ?_
          rotate_left
          ·intro t2
           refine join_ (σ:=Nat) 5 (ba 10 155) (fun s_=>[(8,.pointer (some ⟨s_,0,none⟩))]) (fun s_ w'=>(w'.cell? ⟨b0,0,none⟩ = some (.int .i64 d6) ∧ w'.cell? ⟨b0,1,none⟩ = some (.int .i64 d7)) ∧ (w'.heap[b0]? = some (.cells #[.int .i64 d6,.int .i64 d7] 23 (0,0))) ∧ (w'.heap[b5]? = some (.cells #[.int .i64 0,.int .i64 0] 23 (0,0))) ∧ (w'.heap[s_]? = some (.cells #[.int .i64 0,.int .i64 0] 23 (0,0))) ∧ (w.heap.size ≤ s_) ∧ (w.heap.size ≤ s_) ∧ (b0 ≠ s_) ∧ (s_ ≠ b0) ∧ (b5 ≠ s_) ∧ (s_ ≠ b5) ∧ (Below w.heap.size w w')) ?_ ?_
           rotate_left
           ·intro t3
            refine three_ (i:=2) (j:=6) (k:=7) (Ni:=some 11) (Nj:=some 7) (Nk:=some 8) (ba 10 31) (ba 10 91) (ba 10 155) rfl rfl rfl rfl rfl rfl (three_of HT_.out (by kernel_rfl)) (by decide) (by decide) (by decide) (fun K hK=>?_) (fun K hK=>?_) (fun K hK=>?_)
            ·skip
             refine gq Try.func66 #[.agg #[.int .i64 d6,.int .i64 d7],.int .i64 a2] ?_
             with_reducible refine (numnahref07_rest.calls k d6 d7 a2 e2 e3 _ A4.out).mono ?_
             rintro e s1 ⟨rfl,hb⟩
             refine ⟨_,rfl,?_⟩
             replace b2:=kB b2 hb
             replace b1:=kB b1 hb
             replace HB:=bB HB hb
             (try clear hb)
             refine hz hK (fun hHeld=>?_)
             clear hK K
             refine nq 11 ?_
             exact norm_ (by simp only [putAll,pu0,la,lb,lc]) (t1 () _ ⟨hHeld,b2.out,b1.out,HB.out⟩)
            ·skip
             refine box_step ?hg (N:=7) ?hd (cs:=#[.int .i64 0,.int .i64 0]) (t:=23) ?hr ?_;(case hd=>rfl);(case hg=>rfl);(case hr=>first | (go_simp;done) | (go_simp;rfl))
             intro b3 hg s1 hbox hb
             have d2:=A_ hbox
             have d8:=gw hg HB
             have e0:=d8
             have b6:=nl hg b2
             have d0:=ng hg b2
             have c0:=nl hg b1
             have b7:=ng hg b1
             replace b2:=kB b2 hb
             replace b1:=kB b1 hb
             replace HB:=bB HB hb
             clear hb hbox hg
             refine hz hK (fun hHeld=>?_)
             clear hK K
             refine nq 7 ?_
             exact norm_ (by simp only [putAll,pu0,la,lb,lc]) (t2 b3 _ ⟨hHeld,b2.out,b1.out,d2.out,d8.out,e0.out,b6.out,d0.out,c0.out,b7.out,HB.out⟩)
            skip
            refine box_step ?hg (N:=8) ?hd (cs:=#[.int .i64 0,.int .i64 0]) (t:=23) ?hr ?_;(case hd=>rfl);(case hg=>rfl);(case hr=>first | (go_simp;done) | (go_simp;rfl))
            intro b4 hg s1 hbox hb
            have d3:=A_ hbox
            have d9:=gw hg HB
            have e1:=d9
            have b8:=nl hg b2
            have d1:=ng hg b2
            have c1:=nl hg b1
            have b9:=ng hg b1
            replace b2:=kB b2 hb
            replace b1:=kB b1 hb
            replace HB:=bB HB hb
            clear hb hbox hg
            refine hz hK (fun hHeld=>?_)
            clear hK K
            refine nq 8 ?_
            exact norm_ (by simp only [putAll,pu0,la,lb,lc]) (t3 b4 _ ⟨hHeld,b2.out,b1.out,d3.out,d9.out,e1.out,b8.out,d1.out,c1.out,b9.out,HB.out⟩)
           skip
           rintro b4 i4 ⟨hS_,e8,e9,h0,h4,h5,h6,h7,h8,h9,i0⟩
           have d3:Aside0 (i4.heap[b4]? = some (.cells #[.int .i64 0,.int .i64 0] 23 (0,0))):=⟨h0⟩
           have d9:Aside0 (w.heap.size ≤ b4):=⟨h4⟩
           have e1:Aside0 (w.heap.size ≤ b4):=⟨h5⟩
           have b8:Aside0 (b0 ≠ b4):=⟨h6⟩
           have d1:Aside0 (b4 ≠ b0):=⟨h7⟩
           have c1:Aside0 (b5 ≠ b4):=⟨h8⟩
           have b9:Aside0 (b4 ≠ b5):=⟨h9⟩
           replace b2:Aside0 (i4.heap[b0]? = some (.cells #[.int .i64 d6,.int .i64 d7] 23 (0,0))):=⟨e8⟩
           replace b1:Aside0 (i4.heap[b5]? = some (.cells #[.int .i64 0,.int .i64 0] 23 (0,0))):=⟨e9⟩
           replace HB:Aside0 (Below w.heap.size w i4):=⟨i0⟩
           clear e8 e9 h0 h4 h5 h6 h7 h8 h9 i0
           have hHeld:i4.cell? ⟨b0,0,none⟩ = some (.int .i64 d6) ∧ i4.cell? ⟨b0,1,none⟩ = some (.int .i64 d7):=hS_
           refine norm_ (a':=?_) ?_ ?_
           rotate_left
           ·simp only [putAll,Act.put,List.setIfInBounds_toArray,List.set_cons_zero,List.set_cons_succ]
            rfl
           refine two_ (i:=2) (j:=6) (Ni:=some 11) (Nj:=some 7) (ba 10 159) (ba 10 219) rfl rfl rfl rfl (two_of HT_.out (by kernel_rfl)) (by decide) (by decide) (fun K hK=>?_) (fun K hK=>?_)
           ·skip
            refine gq Try.func66 #[.agg #[.int .i64 d6,.int .i64 d7],.int .i64 a2] ?_
            with_reducible refine (numnahref07_rest.calls k d6 d7 a2 e2 e3 _ A4.out).mono ?_
            rintro e e7 ⟨rfl,hb⟩
            refine ⟨_,rfl,?_⟩
            replace b2:=kB b2 hb
            replace b1:=kB b1 hb
            replace d3:=kB d3 hb
            replace HB:=bB HB hb
            (try clear hb)
            refine hz hK (fun hHeld=>?_)
            clear hK K
            refine nq 11 ?_
            exact norm_ (by simp only [putAll,pu0,la,lb,lc]) (m3 b4 _ ⟨hHeld,b2.out,b1.out,d3.out,d9.out,e1.out,b8.out,d1.out,c1.out,b9.out,HB.out⟩)
           skip
           refine box_step ?hg (N:=7) ?hd (cs:=#[.int .i64 0,.int .i64 0]) (t:=23) ?hr ?_;(case hd=>rfl);(case hg=>rfl);(case hr=>first | (go_simp;done) | (go_simp;rfl))
           intro b3 hg e7 hbox hb
           have d2:=A_ hbox
           have d8:=gw hg HB
           have e0:=d8
           have b6:=nl hg b2
           have d0:=ng hg b2
           have c0:=nl hg b1
           have b7:=ng hg b1
           have d4:=nl hg d3
           have d5:=ng hg d3
           replace b2:=kB b2 hb
           replace b1:=kB b1 hb
           replace d3:=kB d3 hb
           replace HB:=bB HB hb
           clear hb hbox hg
           refine hz hK (fun hHeld=>?_)
           clear hK K
           refine nq 7 ?_
           exact norm_ (by simp only [putAll,pu0,la,lb,lc]) (m4 (b3,b4) _ ⟨hHeld,b2.out,b1.out,d2.out,d3.out,d8.out,e0.out,b6.out,d0.out,c0.out,b7.out,d4.out,d5.out,d9.out,e1.out,b8.out,d1.out,c1.out,b9.out,HB.out⟩)
          skip
          rintro b3 i4 ⟨hS_,e8,e9,h0,h4,h5,h6,h7,h8,h9,i0⟩
          have d2:Aside0 (i4.heap[b3]? = some (.cells #[.int .i64 0,.int .i64 0] 23 (0,0))):=⟨h0⟩
          have d8:Aside0 (w.heap.size ≤ b3):=⟨h4⟩
          have e0:Aside0 (w.heap.size ≤ b3):=⟨h5⟩
          have b6:Aside0 (b0 ≠ b3):=⟨h6⟩
          have d0:Aside0 (b3 ≠ b0):=⟨h7⟩
          have c0:Aside0 (b5 ≠ b3):=⟨h8⟩
          have b7:Aside0 (b3 ≠ b5):=⟨h9⟩
          replace b2:Aside0 (i4.heap[b0]? = some (.cells #[.int .i64 d6,.int .i64 d7] 23 (0,0))):=⟨e8⟩
          replace b1:Aside0 (i4.heap[b5]? = some (.cells #[.int .i64 0,.int .i64 0] 23 (0,0))):=⟨e9⟩
          replace HB:Aside0 (Below w.heap.size w i4):=⟨i0⟩
          clear e8 e9 h0 h4 h5 h6 h7 h8 h9 i0
          have hHeld:i4.cell? ⟨b0,0,none⟩ = some (.int .i64 d6) ∧ i4.cell? ⟨b0,1,none⟩ = some (.int .i64 d7):=hS_
          refine norm_ (a':=?_) ?_ ?_
          rotate_left
          ·simp only [putAll,Act.put,List.setIfInBounds_toArray,List.set_cons_zero,List.set_cons_succ]
           rfl
          refine two_ (i:=2) (j:=7) (Ni:=some 11) (Nj:=some 8) (ba 10 95) (ba 10 219) rfl rfl rfl rfl (two_of HT_.out (by kernel_rfl)) (by decide) (by decide) (fun K hK=>?_) (fun K hK=>?_)
          ·skip
           refine gq Try.func66 #[.agg #[.int .i64 d6,.int .i64 d7],.int .i64 a2] ?_
           with_reducible refine (numnahref07_rest.calls k d6 d7 a2 e2 e3 _ A4.out).mono ?_
           rintro e e7 ⟨rfl,hb⟩
           refine ⟨_,rfl,?_⟩
           replace b2:=kB b2 hb
           replace b1:=kB b1 hb
           replace d2:=kB d2 hb
           replace HB:=bB HB hb
           (try clear hb)
           refine hz hK (fun hHeld=>?_)
           clear hK K
           refine nq 11 ?_
           exact norm_ (by simp only [putAll,pu0,la,lb,lc]) (m2 b3 _ ⟨hHeld,b2.out,b1.out,d2.out,d8.out,e0.out,b6.out,d0.out,c0.out,b7.out,HB.out⟩)
          skip
          refine box_step ?hg (N:=8) ?hd (cs:=#[.int .i64 0,.int .i64 0]) (t:=23) ?hr ?_;(case hd=>rfl);(case hg=>rfl);(case hr=>first | (go_simp;done) | (go_simp;rfl))
          intro b4 hg e7 hbox hb
          have d3:=A_ hbox
          have d9:=gw hg HB
          have e1:=d9
          have b8:=nl hg b2
          have d1:=ng hg b2
          have c1:=nl hg b1
          have b9:=ng hg b1
          have d5:=nl hg d2
          have d4:=ng hg d2
          replace b2:=kB b2 hb
          replace b1:=kB b1 hb
          replace d2:=kB d2 hb
          replace HB:=bB HB hb
          clear hb hbox hg
          refine hz hK (fun hHeld=>?_)
          clear hK K
          refine nq 8 ?_
          exact norm_ (by simp only [putAll,pu0,la,lb,lc]) (m4 (b3,b4) _ ⟨hHeld,b2.out,b1.out,d2.out,d3.out,d8.out,e0.out,b6.out,d0.out,c0.out,b7.out,d4.out,d5.out,d9.out,e1.out,b8.out,d1.out,c1.out,b9.out,HB.out⟩)
         skip
         rintro _ i4 ⟨hS_,e8,e9,h0⟩
         replace b2:Aside0 (i4.heap[b0]? = some (.cells #[.int .i64 d6,.int .i64 d7] 23 (0,0))):=⟨e8⟩
         replace b1:Aside0 (i4.heap[b5]? = some (.cells #[.int .i64 0,.int .i64 0] 23 (0,0))):=⟨e9⟩
         replace HB:Aside0 (Below w.heap.size w i4):=⟨h0⟩
         clear e8 e9 h0
         have hHeld:i4.cell? ⟨b0,0,none⟩ = some (.int .i64 d6) ∧ i4.cell? ⟨b0,1,none⟩ = some (.int .i64 d7):=hS_
         refine norm_ (a':=?_) ?_ ?_
         rotate_left
         ·simp only [putAll,Act.put,List.setIfInBounds_toArray,List.set_cons_zero,List.set_cons_succ]
          rfl
         refine three_ (i:=5) (j:=6) (k:=7) (Ni:=some 14) (Nj:=some 7) (Nk:=some 8) (ba 10 63) (ba 10 95) (ba 10 159) rfl rfl rfl rfl rfl rfl (three_of HT_.out (by kernel_rfl)) (by decide) (by decide) (by decide) (fun K hK=>?_) (fun K hK=>?_) (fun K hK=>?_)
         ·skip
          refine gq Try.func66 #[.agg #[.int .i64 d6,.int .i64 d7],.int .i64 a1] ?_
          with_reducible refine (numnahref07_rest.calls k d6 d7 a1 e5 e6 _ A5.out).mono ?_
          rintro e e7 ⟨rfl,hb⟩
          refine ⟨_,rfl,?_⟩
          replace b2:=kB b2 hb
          replace b1:=kB b1 hb
          replace HB:=bB HB hb
          (try clear hb)
          refine hz hK (fun hHeld=>?_)
          clear hK K
          refine nq 14 ?_
          exact norm_ (by simp only [putAll,pu0,la,lb,lc]) (n5 () _ ⟨hHeld,b2.out,b1.out,HB.out⟩)
         ·skip
          refine box_step ?hg (N:=7) ?hd (cs:=#[.int .i64 0,.int .i64 0]) (t:=23) ?hr ?_;(case hd=>rfl);(case hg=>rfl);(case hr=>first | (go_simp;done) | (go_simp;rfl))
          intro b3 hg e7 hbox hb
          have d2:=A_ hbox
          have d8:=gw hg HB
          have e0:=d8
          have b6:=nl hg b2
          have d0:=ng hg b2
          have c0:=nl hg b1
          have b7:=ng hg b1
          replace b2:=kB b2 hb
          replace b1:=kB b1 hb
          replace HB:=bB HB hb
          clear hb hbox hg
          refine hz hK (fun hHeld=>?_)
          clear hK K
          refine nq 7 ?_
          exact norm_ (by simp only [putAll,pu0,la,lb,lc]) (m2 b3 _ ⟨hHeld,b2.out,b1.out,d2.out,d8.out,e0.out,b6.out,d0.out,c0.out,b7.out,HB.out⟩)
         skip
         refine box_step ?hg (N:=8) ?hd (cs:=#[.int .i64 0,.int .i64 0]) (t:=23) ?hr ?_;(case hd=>rfl);(case hg=>rfl);(case hr=>first | (go_simp;done) | (go_simp;rfl))
         intro b4 hg e7 hbox hb
         have d3:=A_ hbox
         have d9:=gw hg HB
         have e1:=d9
         have b8:=nl hg b2
         have d1:=ng hg b2
         have c1:=nl hg b1
         have b9:=ng hg b1
         replace b2:=kB b2 hb
         replace b1:=kB b1 hb
         replace HB:=bB HB hb
         clear hb hbox hg
         refine hz hK (fun hHeld=>?_)
         clear hK K
         refine nq 8 ?_
         exact norm_ (by simp only [putAll,pu0,la,lb,lc]) (m3 b4 _ ⟨hHeld,b2.out,b1.out,d3.out,d9.out,e1.out,b8.out,d1.out,c1.out,b9.out,HB.out⟩)
        skip
        rintro ⟨b3,b4⟩ e7 ⟨hS_,e8,e9,h0,h4,h5,h6,h7,h8,h9,i0,j5,j7,j8,j9,l5,l6,l7,l8,l9⟩
        have d2:Aside0 (e7.heap[b3]? = some (.cells #[.int .i64 0,.int .i64 0] 23 (0,0))):=⟨h0⟩
        have d3:Aside0 (e7.heap[b4]? = some (.cells #[.int .i64 0,.int .i64 0] 23 (0,0))):=⟨h4⟩
        have d8:Aside0 (w.heap.size ≤ b3):=⟨h5⟩
        have e0:Aside0 (w.heap.size ≤ b3):=⟨h6⟩
        have b6:Aside0 (b0 ≠ b3):=⟨h7⟩
        have d0:Aside0 (b3 ≠ b0):=⟨h8⟩
        have c0:Aside0 (b5 ≠ b3):=⟨h9⟩
        have b7:Aside0 (b3 ≠ b5):=⟨i0⟩
        have d4:Aside0 (b4 ≠ b3):=⟨j5⟩
        have d5:Aside0 (b3 ≠ b4):=⟨j7⟩
        have d9:Aside0 (w.heap.size ≤ b4):=⟨j8⟩
        have e1:Aside0 (w.heap.size ≤ b4):=⟨j9⟩
        have b8:Aside0 (b0 ≠ b4):=⟨l5⟩
        have d1:Aside0 (b4 ≠ b0):=⟨l6⟩
        have c1:Aside0 (b5 ≠ b4):=⟨l7⟩
        have b9:Aside0 (b4 ≠ b5):=⟨l8⟩
        replace b2:Aside0 (e7.heap[b0]? = some (.cells #[.int .i64 d6,.int .i64 d7] 23 (0,0))):=⟨e8⟩
        replace b1:Aside0 (e7.heap[b5]? = some (.cells #[.int .i64 0,.int .i64 0] 23 (0,0))):=⟨e9⟩
        replace HB:Aside0 (Below w.heap.size w e7):=⟨l9⟩
        clear e8 e9 h0 h4 h5 h6 h7 h8 h9 i0 j5 j7 j8 j9 l5 l6 l7 l8 l9
        have hHeld:e7.cell? ⟨b0,0,none⟩ = some (.int .i64 d6) ∧ e7.cell? ⟨b0,1,none⟩ = some (.int .i64 d7):=hS_
        refine norm_ (a':=?_) ?_ ?_
        rotate_left
        ·simp only [putAll,Act.put,List.setIfInBounds_toArray,List.set_cons_zero,List.set_cons_succ]
         rfl
        refine oq 2 11 223 HT_ (fun K hK=>?_)
        refine gq Try.func66 #[.agg #[.int .i64 d6,.int .i64 d7],.int .i64 a2] ?_
        with_reducible refine (numnahref07_rest.calls k d6 d7 a2 e2 e3 _ A4.out).mono ?_
        rintro e h2 ⟨rfl,hb⟩
        refine ⟨_,rfl,?_⟩
        replace b2:=kB b2 hb
        replace b1:=kB b1 hb
        replace d2:=kB d2 hb
        replace d3:=kB d3 hb
        replace HB:=bB HB hb
        (try clear hb)
        refine hz hK (fun hHeld=>?_)
        clear hK K
        refine nq 11 ?_
        exact norm_ (by simp only [putAll,pu0,la,lb,lc]) (i3 (b3,b4) _ ⟨hHeld,b2.out,b1.out,d2.out,d3.out,d8.out,e0.out,b6.out,d0.out,c0.out,b7.out,d4.out,d5.out,d9.out,e1.out,b8.out,d1.out,c1.out,b9.out,HB.out⟩)
       skip
       rintro b4 e7 ⟨hS_,e8,e9,h0,h4,h5,h6,h7,h8,h9,i0⟩
       have d3:Aside0 (e7.heap[b4]? = some (.cells #[.int .i64 0,.int .i64 0] 23 (0,0))):=⟨h0⟩
       have d9:Aside0 (w.heap.size ≤ b4):=⟨h4⟩
       have e1:Aside0 (w.heap.size ≤ b4):=⟨h5⟩
       have b8:Aside0 (b0 ≠ b4):=⟨h6⟩
       have d1:Aside0 (b4 ≠ b0):=⟨h7⟩
       have c1:Aside0 (b5 ≠ b4):=⟨h8⟩
       have b9:Aside0 (b4 ≠ b5):=⟨h9⟩
       replace b2:Aside0 (e7.heap[b0]? = some (.cells #[.int .i64 d6,.int .i64 d7] 23 (0,0))):=⟨e8⟩
       replace b1:Aside0 (e7.heap[b5]? = some (.cells #[.int .i64 0,.int .i64 0] 23 (0,0))):=⟨e9⟩
       replace HB:Aside0 (Below w.heap.size w e7):=⟨i0⟩
       clear e8 e9 h0 h4 h5 h6 h7 h8 h9 i0
       have hHeld:e7.cell? ⟨b0,0,none⟩ = some (.int .i64 d6) ∧ e7.cell? ⟨b0,1,none⟩ = some (.int .i64 d7):=hS_
       refine norm_ (a':=?_) ?_ ?_
       rotate_left
       ·simp only [putAll,Act.put,List.setIfInBounds_toArray,List.set_cons_zero,List.set_cons_succ]
        rfl
       refine two_ (i:=5) (j:=6) (Ni:=some 14) (Nj:=some 7) (ba 10 191) (ba 10 223) rfl rfl rfl rfl (two_of HT_.out (by kernel_rfl)) (by decide) (by decide) (fun K hK=>?_) (fun K hK=>?_)
       ·skip
        refine gq Try.func66 #[.agg #[.int .i64 d6,.int .i64 d7],.int .i64 a1] ?_
        with_reducible refine (numnahref07_rest.calls k d6 d7 a1 e5 e6 _ A5.out).mono ?_
        rintro e h2 ⟨rfl,hb⟩
        refine ⟨_,rfl,?_⟩
        replace b2:=kB b2 hb
        replace b1:=kB b1 hb
        replace d3:=kB d3 hb
        replace HB:=bB HB hb
        (try clear hb)
        refine hz hK (fun hHeld=>?_)
        clear hK K
        refine nq 14 ?_
        exact norm_ (by simp only [putAll,pu0,la,lb,lc]) (m1 b4 _ ⟨hHeld,b2.out,b1.out,d3.out,d9.out,e1.out,b8.out,d1.out,c1.out,b9.out,HB.out⟩)
       skip
       refine box_step ?hg (N:=7) ?hd (cs:=#[.int .i64 0,.int .i64 0]) (t:=23) ?hr ?_;(case hd=>rfl);(case hg=>rfl);(case hr=>first | (go_simp;done) | (go_simp;rfl))
       intro b3 hg h2 hbox hb
       have d2:=A_ hbox
       have d8:=gw hg HB
       have e0:=d8
       have b6:=nl hg b2
       have d0:=ng hg b2
       have c0:=nl hg b1
       have b7:=ng hg b1
       have d4:=nl hg d3
       have d5:=ng hg d3
       replace b2:=kB b2 hb
       replace b1:=kB b1 hb
       replace d3:=kB d3 hb
       replace HB:=bB HB hb
       clear hb hbox hg
       refine hz hK (fun hHeld=>?_)
       clear hK K
       refine nq 7 ?_
       exact norm_ (by simp only [putAll,pu0,la,lb,lc]) (i3 (b3,b4) _ ⟨hHeld,b2.out,b1.out,d2.out,d3.out,d8.out,e0.out,b6.out,d0.out,c0.out,b7.out,d4.out,d5.out,d9.out,e1.out,b8.out,d1.out,c1.out,b9.out,HB.out⟩)
      skip
      rintro b3 e7 ⟨hS_,e8,e9,h0,h4,h5,h6,h7,h8,h9,i0⟩
      have d2:Aside0 (e7.heap[b3]? = some (.cells #[.int .i64 0,.int .i64 0] 23 (0,0))):=⟨h0⟩
      have d8:Aside0 (w.heap.size ≤ b3):=⟨h4⟩
      have e0:Aside0 (w.heap.size ≤ b3):=⟨h5⟩
      have b6:Aside0 (b0 ≠ b3):=⟨h6⟩
      have d0:Aside0 (b3 ≠ b0):=⟨h7⟩
      have c0:Aside0 (b5 ≠ b3):=⟨h8⟩
      have b7:Aside0 (b3 ≠ b5):=⟨h9⟩
      replace b2:Aside0 (e7.heap[b0]? = some (.cells #[.int .i64 d6,.int .i64 d7] 23 (0,0))):=⟨e8⟩
      replace b1:Aside0 (e7.heap[b5]? = some (.cells #[.int .i64 0,.int .i64 0] 23 (0,0))):=⟨e9⟩
      replace HB:Aside0 (Below w.heap.size w e7):=⟨i0⟩
      clear e8 e9 h0 h4 h5 h6 h7 h8 h9 i0
      have hHeld:e7.cell? ⟨b0,0,none⟩ = some (.int .i64 d6) ∧ e7.cell? ⟨b0,1,none⟩ = some (.int .i64 d7):=hS_
      refine norm_ (a':=?_) ?_ ?_
      rotate_left
      ·simp only [putAll,Act.put,List.setIfInBounds_toArray,List.set_cons_zero,List.set_cons_succ]
       rfl
      refine two_ (i:=5) (j:=7) (Ni:=some 14) (Nj:=some 8) (ba 10 127) (ba 10 223) rfl rfl rfl rfl (two_of HT_.out (by kernel_rfl)) (by decide) (by decide) (fun K hK=>?_) (fun K hK=>?_)
      ·skip
       refine gq Try.func66 #[.agg #[.int .i64 d6,.int .i64 d7],.int .i64 a1] ?_
       with_reducible refine (numnahref07_rest.calls k d6 d7 a1 e5 e6 _ A5.out).mono ?_
       rintro e h2 ⟨rfl,hb⟩
       refine ⟨_,rfl,?_⟩
       replace b2:=kB b2 hb
       replace b1:=kB b1 hb
       replace d2:=kB d2 hb
       replace HB:=bB HB hb
       (try clear hb)
       refine hz hK (fun hHeld=>?_)
       clear hK K
       refine nq 14 ?_
       exact norm_ (by simp only [putAll,pu0,la,lb,lc]) (m0 b3 _ ⟨hHeld,b2.out,b1.out,d2.out,d8.out,e0.out,b6.out,d0.out,c0.out,b7.out,HB.out⟩)
      skip
      refine box_step ?hg (N:=8) ?hd (cs:=#[.int .i64 0,.int .i64 0]) (t:=23) ?hr ?_;(case hd=>rfl);(case hg=>rfl);(case hr=>first | (go_simp;done) | (go_simp;rfl))
      intro b4 hg h2 hbox hb
      have d3:=A_ hbox
      have d9:=gw hg HB
      have e1:=d9
      have b8:=nl hg b2
      have d1:=ng hg b2
      have c1:=nl hg b1
      have b9:=ng hg b1
      have d5:=nl hg d2
      have d4:=ng hg d2
      replace b2:=kB b2 hb
      replace b1:=kB b1 hb
      replace d2:=kB d2 hb
      replace HB:=bB HB hb
      clear hb hbox hg
      refine hz hK (fun hHeld=>?_)
      clear hK K
      refine nq 8 ?_
      exact norm_ (by simp only [putAll,pu0,la,lb,lc]) (i3 (b3,b4) _ ⟨hHeld,b2.out,b1.out,d2.out,d3.out,d8.out,e0.out,b6.out,d0.out,c0.out,b7.out,d4.out,d5.out,d9.out,e1.out,b8.out,d1.out,c1.out,b9.out,HB.out⟩)
     skip
     rintro _ e7 ⟨hS_,e8,e9,h0⟩
     replace b2:Aside0 (e7.heap[b0]? = some (.cells #[.int .i64 d6,.int .i64 d7] 23 (0,0))):=⟨e8⟩
     replace b1:Aside0 (e7.heap[b5]? = some (.cells #[.int .i64 0,.int .i64 0] 23 (0,0))):=⟨e9⟩
     replace HB:Aside0 (Below w.heap.size w e7):=⟨h0⟩
     clear e8 e9 h0
     have hHeld:e7.cell? ⟨b0,0,none⟩ = some (.int .i64 d6) ∧ e7.cell? ⟨b0,1,none⟩ = some (.int .i64 d7):=hS_
     refine norm_ (a':=?_) ?_ ?_
     rotate_left
     ·simp only [putAll,Act.put,List.setIfInBounds_toArray,List.set_cons_zero,List.set_cons_succ]
      rfl
     refine two_ (i:=6) (j:=7) (Ni:=some 7) (Nj:=some 8) (ba 10 127) (ba 10 191) rfl rfl rfl rfl (two_of HT_.out (by kernel_rfl)) (by decide) (by decide) (fun K hK=>?_) (fun K hK=>?_)
     ·skip
      refine box_step ?hg (N:=7) ?hd (cs:=#[.int .i64 0,.int .i64 0]) (t:=23) ?hr ?_;(case hd=>rfl);(case hg=>rfl);(case hr=>first | (go_simp;done) | (go_simp;rfl))
      intro b3 hg h2 hbox hb
      have d2:=A_ hbox
      have d8:=gw hg HB
      have e0:=d8
      have b6:=nl hg b2
      have d0:=ng hg b2
      have c0:=nl hg b1
      have b7:=ng hg b1
      replace b2:=kB b2 hb
      replace b1:=kB b1 hb
      replace HB:=bB HB hb
      clear hb hbox hg
      refine hz hK (fun hHeld=>?_)
      clear hK K
      refine nq 7 ?_
      exact norm_ (by simp only [putAll,pu0,la,lb,lc]) (m0 b3 _ ⟨hHeld,b2.out,b1.out,d2.out,d8.out,e0.out,b6.out,d0.out,c0.out,b7.out,HB.out⟩)
     skip
     refine box_step ?hg (N:=8) ?hd (cs:=#[.int .i64 0,.int .i64 0]) (t:=23) ?hr ?_;(case hd=>rfl);(case hg=>rfl);(case hr=>first | (go_simp;done) | (go_simp;rfl))
     intro b4 hg h2 hbox hb
     have d3:=A_ hbox
     have d9:=gw hg HB
     have e1:=d9
     have b8:=nl hg b2
     have d1:=ng hg b2
     have c1:=nl hg b1
     have b9:=ng hg b1
     replace b2:=kB b2 hb
     replace b1:=kB b1 hb
     replace HB:=bB HB hb
     clear hb hbox hg
     refine hz hK (fun hHeld=>?_)
     clear hK K
     refine nq 8 ?_
     exact norm_ (by simp only [putAll,pu0,la,lb,lc]) (m1 b4 _ ⟨hHeld,b2.out,b1.out,d3.out,d9.out,e1.out,b8.out,d1.out,c1.out,b9.out,HB.out⟩)
    skip
    rintro ⟨b3,b4⟩ h2 ⟨hS_,e8,e9,h0,h4,h5,h6,h7,h8,h9,i0,j5,j7,j8,j9,l5,l6,l7,l8,l9⟩
    have d2:Aside0 (h2.heap[b3]? = some (.cells #[.int .i64 0,.int .i64 0] 23 (0,0))):=⟨h0⟩
    have d3:Aside0 (h2.heap[b4]? = some (.cells #[.int .i64 0,.int .i64 0] 23 (0,0))):=⟨h4⟩
    have d8:Aside0 (w.heap.size ≤ b3):=⟨h5⟩
    have e0:Aside0 (w.heap.size ≤ b3):=⟨h6⟩
    have b6:Aside0 (b0 ≠ b3):=⟨h7⟩
    have d0:Aside0 (b3 ≠ b0):=⟨h8⟩
    have c0:Aside0 (b5 ≠ b3):=⟨h9⟩
    have b7:Aside0 (b3 ≠ b5):=⟨i0⟩
    have d4:Aside0 (b4 ≠ b3):=⟨j5⟩
    have d5:Aside0 (b3 ≠ b4):=⟨j7⟩
    have d9:Aside0 (w.heap.size ≤ b4):=⟨j8⟩
    have e1:Aside0 (w.heap.size ≤ b4):=⟨j9⟩
    have b8:Aside0 (b0 ≠ b4):=⟨l5⟩
    have d1:Aside0 (b4 ≠ b0):=⟨l6⟩
    have c1:Aside0 (b5 ≠ b4):=⟨l7⟩
    have b9:Aside0 (b4 ≠ b5):=⟨l8⟩
    replace b2:Aside0 (h2.heap[b0]? = some (.cells #[.int .i64 d6,.int .i64 d7] 23 (0,0))):=⟨e8⟩
    replace b1:Aside0 (h2.heap[b5]? = some (.cells #[.int .i64 0,.int .i64 0] 23 (0,0))):=⟨e9⟩
    replace HB:Aside0 (Below w.heap.size w h2):=⟨l9⟩
    clear e8 e9 h0 h4 h5 h6 h7 h8 h9 i0 j5 j7 j8 j9 l5 l6 l7 l8 l9
    have hHeld:h2.cell? ⟨b0,0,none⟩ = some (.int .i64 d6) ∧ h2.cell? ⟨b0,1,none⟩ = some (.int .i64 d7):=hS_
    refine norm_ (a':=?_) ?_ ?_
    rotate_left
    ·simp only [putAll,Act.put,List.setIfInBounds_toArray,List.set_cons_zero,List.set_cons_succ]
     rfl
    refine oq 5 14 255 HT_ (fun K hK=>?_)
    refine gq Try.func66 #[.agg #[.int .i64 d6,.int .i64 d7],.int .i64 a1] ?_
    with_reducible refine (numnahref07_rest.calls k d6 d7 a1 e5 e6 _ A5.out).mono ?_
    rintro e i2 ⟨rfl,hb⟩
    refine ⟨_,rfl,?_⟩
    replace b2:=kB b2 hb
    replace b1:=kB b1 hb
    replace d2:=kB d2 hb
    replace d3:=kB d3 hb
    replace HB:=bB HB hb
    (try clear hb)
    refine hz hK (fun hHeld=>?_)
    clear hK K
    refine nq 14 ?_
    exact norm_ (by simp only [putAll,pu0,la,lb,lc]) (h3 (b3,b4) _ ⟨hHeld,b2.out,b1.out,d2.out,d3.out,d8.out,e0.out,b6.out,d0.out,c0.out,b7.out,d4.out,d5.out,d9.out,e1.out,b8.out,d1.out,c1.out,b9.out,HB.out⟩)
   skip
   rintro b4 h2 ⟨hS_,e8,e9,h0,h4,h5,h6,h7,h8,h9,i0⟩
   have d3:Aside0 (h2.heap[b4]? = some (.cells #[.int .i64 0,.int .i64 0] 23 (0,0))):=⟨h0⟩
   have d9:Aside0 (w.heap.size ≤ b4):=⟨h4⟩
   have e1:Aside0 (w.heap.size ≤ b4):=⟨h5⟩
   have b8:Aside0 (b0 ≠ b4):=⟨h6⟩
   have d1:Aside0 (b4 ≠ b0):=⟨h7⟩
   have c1:Aside0 (b5 ≠ b4):=⟨h8⟩
   have b9:Aside0 (b4 ≠ b5):=⟨h9⟩
   replace b2:Aside0 (h2.heap[b0]? = some (.cells #[.int .i64 d6,.int .i64 d7] 23 (0,0))):=⟨e8⟩
   replace b1:Aside0 (h2.heap[b5]? = some (.cells #[.int .i64 0,.int .i64 0] 23 (0,0))):=⟨e9⟩
   replace HB:Aside0 (Below w.heap.size w h2):=⟨i0⟩
   clear e8 e9 h0 h4 h5 h6 h7 h8 h9 i0
   have hHeld:h2.cell? ⟨b0,0,none⟩ = some (.int .i64 d6) ∧ h2.cell? ⟨b0,1,none⟩ = some (.int .i64 d7):=hS_
   refine norm_ (a':=?_) ?_ ?_
   rotate_left
   ·simp only [putAll,Act.put,List.setIfInBounds_toArray,List.set_cons_zero,List.set_cons_succ]
    rfl
   refine oq 6 7 255 HT_ (fun K hK=>?_)
   refine box_step ?hg (N:=7) ?hd (cs:=#[.int .i64 0,.int .i64 0]) (t:=23) ?hr ?_;(case hd=>rfl);(case hg=>rfl);(case hr=>first | (go_simp;done) | (go_simp;rfl))
   intro b3 hg i2 hbox hb
   have d2:=A_ hbox
   have d8:=gw hg HB
   have e0:=d8
   have b6:=nl hg b2
   have d0:=ng hg b2
   have c0:=nl hg b1
   have b7:=ng hg b1
   have d4:=nl hg d3
   have d5:=ng hg d3
   replace b2:=kB b2 hb
   replace b1:=kB b1 hb
   replace d3:=kB d3 hb
   replace HB:=bB HB hb
   clear hb hbox hg
   refine hz hK (fun hHeld=>?_)
   clear hK K
   refine nq 7 ?_
   exact norm_ (by simp only [putAll,pu0,la,lb,lc]) (h3 (b3,b4) _ ⟨hHeld,b2.out,b1.out,d2.out,d3.out,d8.out,e0.out,b6.out,d0.out,c0.out,b7.out,d4.out,d5.out,d9.out,e1.out,b8.out,d1.out,c1.out,b9.out,HB.out⟩)
  skip
  rintro b3 h2 ⟨hS_,e8,e9,h0,h4,h5,h6,h7,h8,h9,i0⟩
  have d2:Aside0 (h2.heap[b3]? = some (.cells #[.int .i64 0,.int .i64 0] 23 (0,0))):=⟨h0⟩
  have d8:Aside0 (w.heap.size ≤ b3):=⟨h4⟩
  have e0:Aside0 (w.heap.size ≤ b3):=⟨h5⟩
  have b6:Aside0 (b0 ≠ b3):=⟨h6⟩
  have d0:Aside0 (b3 ≠ b0):=⟨h7⟩
  have c0:Aside0 (b5 ≠ b3):=⟨h8⟩
  have b7:Aside0 (b3 ≠ b5):=⟨h9⟩
  replace b2:Aside0 (h2.heap[b0]? = some (.cells #[.int .i64 d6,.int .i64 d7] 23 (0,0))):=⟨e8⟩
  replace b1:Aside0 (h2.heap[b5]? = some (.cells #[.int .i64 0,.int .i64 0] 23 (0,0))):=⟨e9⟩
  replace HB:Aside0 (Below w.heap.size w h2):=⟨i0⟩
  clear e8 e9 h0 h4 h5 h6 h7 h8 h9 i0
  have hHeld:h2.cell? ⟨b0,0,none⟩ = some (.int .i64 d6) ∧ h2.cell? ⟨b0,1,none⟩ = some (.int .i64 d7):=hS_
  refine norm_ (a':=?_) ?_ ?_
  rotate_left
  ·simp only [putAll,Act.put,List.setIfInBounds_toArray,List.set_cons_zero,List.set_cons_succ]
   rfl
  refine oq 7 8 255 HT_ (fun K hK=>?_)
  refine box_step ?hg (N:=8) ?hd (cs:=#[.int .i64 0,.int .i64 0]) (t:=23) ?hr ?_;(case hd=>rfl);(case hg=>rfl);(case hr=>first | (go_simp;done) | (go_simp;rfl))
  intro b4 hg i2 hbox hb
  have d3:=A_ hbox
  have d9:=gw hg HB
  have e1:=d9
  have b8:=nl hg b2
  have d1:=ng hg b2
  have c1:=nl hg b1
  have b9:=ng hg b1
  have d5:=nl hg d2
  have d4:=ng hg d2
  replace b2:=kB b2 hb
  replace b1:=kB b1 hb
  replace d2:=kB d2 hb
  replace HB:=bB HB hb
  clear hb hbox hg
  refine hz hK (fun hHeld=>?_)
  clear hK K
  refine nq 8 ?_
  exact norm_ (by simp only [putAll,pu0,la,lb,lc]) (h3 (b3,b4) _ ⟨hHeld,b2.out,b1.out,d2.out,d3.out,d8.out,e0.out,b6.out,d0.out,c0.out,b7.out,d4.out,d5.out,d9.out,e1.out,b8.out,d1.out,c1.out,b9.out,HB.out⟩)
 rintro ⟨b3,b4⟩ i2 ⟨hS_,e8,e9,h0,h4,h5,h6,h7,h8,h9,i0,j5,j7,j8,j9,l5,l6,l7,l8,l9⟩
 have d2:Aside0 (i2.heap[b3]? = some (.cells #[.int .i64 0,.int .i64 0] 23 (0,0))):=⟨h0⟩
 have d3:Aside0 (i2.heap[b4]? = some (.cells #[.int .i64 0,.int .i64 0] 23 (0,0))):=⟨h4⟩
 have d8:Aside0 (w.heap.size ≤ b3):=⟨h5⟩
 have e0:Aside0 (w.heap.size ≤ b3):=⟨h6⟩
 have b6:Aside0 (b0 ≠ b3):=⟨h7⟩
 have d0:Aside0 (b3 ≠ b0):=⟨h8⟩
 have c0:Aside0 (b5 ≠ b3):=⟨h9⟩
 have b7:Aside0 (b3 ≠ b5):=⟨i0⟩
 have d4:Aside0 (b4 ≠ b3):=⟨j5⟩
 have d5:Aside0 (b3 ≠ b4):=⟨j7⟩
 have d9:Aside0 (w.heap.size ≤ b4):=⟨j8⟩
 have e1:Aside0 (w.heap.size ≤ b4):=⟨j9⟩
 have b8:Aside0 (b0 ≠ b4):=⟨l5⟩
 have d1:Aside0 (b4 ≠ b0):=⟨l6⟩
 have c1:Aside0 (b5 ≠ b4):=⟨l7⟩
 have b9:Aside0 (b4 ≠ b5):=⟨l8⟩
 replace b2:Aside0 (i2.heap[b0]? = some (.cells #[.int .i64 d6,.int .i64 d7] 23 (0,0))):=⟨e8⟩
 replace b1:Aside0 (i2.heap[b5]? = some (.cells #[.int .i64 0,.int .i64 0] 23 (0,0))):=⟨e9⟩
 replace HB:Aside0 (Below w.heap.size w i2):=⟨l9⟩
 clear e8 e9 h0 h4 h5 h6 h7 h8 h9 i0 j5 j7 j8 j9 l5 l6 l7 l8 l9
 have hHeld:i2.cell? ⟨b0,0,none⟩ = some (.int .i64 d6) ∧ i2.cell? ⟨b0,1,none⟩ = some (.int .i64 d7):=hS_
 refine norm_ (a':=?_) ?_ ?_
 rotate_left
 ·simp only [putAll,Act.put,List.setIfInBounds_toArray,List.set_cons_zero,List.set_cons_succ]
  rfl
 refine one_ (i:=8) (N:=none) (ba 10 511) rfl rfl (one_of HT_.out (by kernel_rfl)) (by decide) (fun K hK=>?_)
 have t4:i2.cell? ⟨b3,0,none⟩ = some (.int .i64 0):=cz d2 0
 have s2:=blk_frozen d2.out 0
 have n6:=b6.out
 have n7:=c0.out
 have n8:=d4.out
 have n9:=d0.out
 have o0:=b7.out
 have o1:=d5.out
 have t5:i2.cell? ⟨b3,1,none⟩ = some (.int .i64 0):=cz d2 1
 have s3:=blk_frozen d2.out 1
 have o2:=b6.out
 have o3:=c0.out
 have o4:=d4.out
 have o5:=d0.out
 have o6:=b7.out
 have o7:=d5.out
 refine skip_ (w1:=?_) (by rfl) rfl ?_ ?_
 rotate_left
 ·go_simp
  rfl
 refine hK.out _ _ ⟨((cell_far (p:=⟨b3,_,none⟩) b6.out _).trans (((cell_far (p:=⟨b3,_,none⟩) b6.out _).trans (hHeld.1)))),((cell_far (p:=⟨b3,_,none⟩) b6.out _).trans (((cell_far (p:=⟨b3,_,none⟩) b6.out _).trans (hHeld.2))))⟩ (fun hHeld=>?_)
 clear hK K
 refine one_ (i:=9) (N:=none) (ba 10 1023) rfl rfl (one_of HT_.out (by kernel_rfl)) (by decide) (fun K hK=>?_)
 have t6:i2.cell? ⟨b4,0,none⟩ = some (.int .i64 0):=cz d3 0
 have s4:=blk_frozen d3.out 0
 have o8:=b8.out
 have o9:=c1.out
 have p0:=d5.out
 have p1:=d1.out
 have p2:=b9.out
 have p3:=d4.out
 have t7:i2.cell? ⟨b4,1,none⟩ = some (.int .i64 0):=cz d3 1
 have s5:=blk_frozen d3.out 1
 have p4:=b8.out
 have p5:=c1.out
 have p6:=d5.out
 have p7:=d1.out
 have p8:=b9.out
 have p9:=d4.out
 refine skip_ (w1:=?_) (by rfl) rfl ?_ ?_
 rotate_left
 ·go_simp
  rfl
 refine hK.out _ _ ⟨((cell_far (p:=⟨b4,_,none⟩) b8.out _).trans (((cell_far (p:=⟨b4,_,none⟩) b8.out _).trans (hHeld.1)))),((cell_far (p:=⟨b4,_,none⟩) b8.out _).trans (((cell_far (p:=⟨b4,_,none⟩) b8.out _).trans (hHeld.2))))⟩ (fun hHeld=>?_)
 clear hK K
 refine done_ (done_of HT_.out (by kernel_rfl)) ?_
 try go_wp2
 have r4:Aside0 (((((i2.setCell ⟨b3,0,none⟩ (.int .i64 e2)).setCell ⟨b3,1,none⟩ (.int .i64 e3)).setCell ⟨b4,0,none⟩ (.int .i64 e5)).setCell ⟨b4,1,none⟩ (.int .i64 e6)).heap[b0]? = some (.cells #[.int .i64 d6,.int .i64 d7] 23 (0,0))):=⟨by refine blk_far ?_ b8.out _;refine blk_far ?_ b8.out _;refine blk_far ?_ b6.out _;refine blk_far ?_ b6.out _;exact b2.out⟩
 have r5:Aside0 (((((i2.setCell ⟨b3,0,none⟩ (.int .i64 e2)).setCell ⟨b3,1,none⟩ (.int .i64 e3)).setCell ⟨b4,0,none⟩ (.int .i64 e5)).setCell ⟨b4,1,none⟩ (.int .i64 e6)).heap[b5]? = some (.cells #[.int .i64 0,.int .i64 0] 23 (0,0))):=⟨by refine blk_far ?_ c1.out _;refine blk_far ?_ c1.out _;refine blk_far ?_ c0.out _;refine blk_far ?_ c0.out _;exact b1.out⟩
 have r6:Aside0 (((((i2.setCell ⟨b3,0,none⟩ (.int .i64 e2)).setCell ⟨b3,1,none⟩ (.int .i64 e3)).setCell ⟨b4,0,none⟩ (.int .i64 e5)).setCell ⟨b4,1,none⟩ (.int .i64 e6)).heap[b3]? = some (.cells #[.int .i64 e2,.int .i64 e3] 23 (0,0))):=⟨by refine blk_far ?_ d5.out _;refine blk_far ?_ d5.out _;refine blk_put (cs:=#[.int .i64 e2,.int .i64 0]) ?_ 1 _ rfl;refine blk_put (cs:=#[.int .i64 0,.int .i64 0]) ?_ 0 _ rfl;exact d2.out⟩
 have r7:Aside0 (((((i2.setCell ⟨b3,0,none⟩ (.int .i64 e2)).setCell ⟨b3,1,none⟩ (.int .i64 e3)).setCell ⟨b4,0,none⟩ (.int .i64 e5)).setCell ⟨b4,1,none⟩ (.int .i64 e6)).heap[b4]? = some (.cells #[.int .i64 e5,.int .i64 e6] 23 (0,0))):=⟨by refine blk_put (cs:=#[.int .i64 e5,.int .i64 0]) ?_ 1 _ rfl;refine blk_put (cs:=#[.int .i64 0,.int .i64 0]) ?_ 0 _ rfl;refine blk_far ?_ d4.out _;refine blk_far ?_ d4.out _;exact d3.out⟩
 have r8:Aside0 (Below w.heap.size w ((((i2.setCell ⟨b3,0,none⟩ (.int .i64 e2)).setCell ⟨b3,1,none⟩ (.int .i64 e3)).setCell ⟨b4,0,none⟩ (.int .i64 e5)).setCell ⟨b4,1,none⟩ (.int .i64 e6))):=⟨bl HB⟩
 generalize ((((i2.setCell ⟨b3,0,none⟩ (.int .i64 e2)).setCell ⟨b3,1,none⟩ (.int .i64 e3)).setCell ⟨b4,0,none⟩ (.int .i64 e5)).setCell ⟨b4,1,none⟩ (.int .i64 e6)) = t8 at r4 r5 r6 r7 r8 ⊢
 have b2:=r4
 have b1:=r5
 have d2:=r6
 have d3:=r7
 have HB:=r8
 clear r4 r5 r6 r7 r8
 replace b2:=kD b2
 replace b1:=kD b1
 replace d2:=kD d2
 replace d3:=kD d3
 replace HB:=bD HB
 refine st 9 (fun w'=>w'.cell? ⟨b3,0,none⟩ = some (.int .i64 e2) ∧ w'.cell? ⟨b3,1,none⟩ = some (.int .i64 e3) ∧ w'.cell? ⟨b0,0,none⟩ = some (.int .i64 d6) ∧ w'.cell? ⟨b0,1,none⟩ = some (.int .i64 d7) ∧ w'.cell? ⟨b4,0,none⟩ = some (.int .i64 e5) ∧ w'.cell? ⟨b4,1,none⟩ = some (.int .i64 e6)) [] numnahref07_Garment.tab2 numnahref07_Garment.bits2 (fun hHeld HT_ HW_=>?_)
 generalize t8.drew = x3 at b2 b1 d2 d3 HB hHeld ⊢
 refine tq 0 15 1 HT_ HW_ hHeld ?_
 refine tq 1 16 3 HT_ HW_ hHeld ?_
 refine tq 2 17 7 HT_ HW_ hHeld ?_
 refine tq 4 19 23 HT_ HW_ hHeld ?_
 refine oq 3 18 31 HT_ (fun K hK=>?_)
 refine gq Try.func31 #[.agg #[.int .i64 d6,.int .i64 d7],.agg #[.int .i64 e2,.int .i64 e3]] ?_
 with_reducible refine (numnahref07_Sub.calls k d6 d7 e2 e3 m5 m6 _ A6.out).mono ?_
 rintro e x4 ⟨rfl,hb⟩
 refine ⟨_,rfl,?_⟩
 replace b2:=kB b2 hb
 replace b1:=kB b1 hb
 replace d2:=kB d2 hb
 replace d3:=kB d3 hb
 replace HB:=bB HB hb
 (try clear hb)
 refine hz hK (fun hHeld=>?_)
 clear hK K
 refine nq 18 ?_
 refine oq 5 20 63 HT_ (fun K hK=>?_)
 refine gq Try.func31 #[.agg #[.int .i64 m5,.int .i64 m6],.agg #[.int .i64 e5,.int .i64 e6]] ?_
 with_reducible refine (numnahref07_Sub.calls k m5 m6 e5 e6 m7 m8 _ A7.out).mono ?_
 rintro e x5 ⟨rfl,hb⟩
 refine ⟨_,rfl,?_⟩
 replace b2:=kB b2 hb
 replace b1:=kB b1 hb
 replace d2:=kB d2 hb
 replace d3:=kB d3 hb
 replace HB:=bB HB hb
 (try clear hb)
 refine hz hK (fun hHeld=>?_)
 clear hK K
 refine nq 20 ?_
 refine oq 6 21 127 HT_ (fun K hK=>?_)
 refine gq Try.func67 #[.agg #[.int .i64 m7,.int .i64 m8]] ?_
 with_reducible refine (numnahref07_Half.calls k m7 m8 m9 n0 _ A8.out).mono ?_
 rintro e x6 ⟨rfl,hb⟩
 refine ⟨_,rfl,?_⟩
 replace b2:=kB b2 hb
 replace b1:=kB b1 hb
 replace d2:=kB d2 hb
 replace d3:=kB d3 hb
 replace HB:=bB HB hb
 (try clear hb)
 refine hz hK (fun hHeld=>?_)
 clear hK K
 refine nq 21 ?_
 refine oq 7 22 255 HT_ (fun K hK=>?_)
 refine gq Try.func28 #[.agg #[.int .i64 e2,.int .i64 e3],.agg #[.int .i64 m9,.int .i64 n0]] ?_
 with_reducible refine (numnahref07_Add.calls k e2 e3 m9 n0 n1 n2 _ A9.out).mono ?_
 rintro e s6 ⟨rfl,hb⟩
 refine ⟨_,rfl,?_⟩
 replace b2:=kB b2 hb
 replace b1:=kB b1 hb
 replace d2:=kB d2 hb
 replace d3:=kB d3 hb
 replace HB:=bB HB hb
 (try clear hb)
 refine hz hK (fun hHeld=>?_)
 clear hK K
 refine nq 22 ?_
 refine one_ (i:=8) (N:=none) (ba 9 511) rfl rfl (one_of HT_.out (by kernel_rfl)) (by decide) (fun K hK=>?_)
 have t9:s6.cell? ⟨b5,0,none⟩ = some (.int .i64 0):=cz b1 0
 have s7:=blk_frozen b1.out 0
 have q0:=e4.out
 have q1:=b7.out
 have q2:=b9.out
 have q3:=i1.out
 have q4:=c0.out
 have q5:=c1.out
 have x0:s6.cell? ⟨b5,1,none⟩ = some (.int .i64 0):=cz b1 1
 have s8:=blk_frozen b1.out 1
 have q6:=e4.out
 have q7:=b7.out
 have q8:=b9.out
 have q9:=i1.out
 have r0:=c0.out
 have r3:=c1.out
 refine skip_ (w1:=?_) (by rfl) rfl ?_ ?_
 rotate_left
 ·go_simp
  rfl
 refine hK.out _ _ ⟨((cell_far (p:=⟨b5,_,none⟩) b7.out _).trans (((cell_far (p:=⟨b5,_,none⟩) b7.out _).trans (hHeld.1)))),((cell_far (p:=⟨b5,_,none⟩) b7.out _).trans (((cell_far (p:=⟨b5,_,none⟩) b7.out _).trans (hHeld.2.1)))),((cell_far (p:=⟨b5,_,none⟩) e4.out _).trans (((cell_far (p:=⟨b5,_,none⟩) e4.out _).trans (hHeld.2.2.1)))),((cell_far (p:=⟨b5,_,none⟩) e4.out _).trans (((cell_far (p:=⟨b5,_,none⟩) e4.out _).trans (hHeld.2.2.2.1)))),((cell_far (p:=⟨b5,_,none⟩) b9.out _).trans (((cell_far (p:=⟨b5,_,none⟩) b9.out _).trans (hHeld.2.2.2.2.1)))),((cell_far (p:=⟨b5,_,none⟩) b9.out _).trans (((cell_far (p:=⟨b5,_,none⟩) b9.out _).trans (hHeld.2.2.2.2.2))))⟩ (fun hHeld=>?_)
 clear hK K
 refine done_ (done_of HT_.out (by kernel_rfl)) ?_
 try go_wp2
 refine bodyPost_ret (results_cell_row rfl _ _ b5 23 #[.int .i64 n1,.int .i64 n2] (0,0) _ rfl (by refine blk_put (cs:=#[.int .i64 n1,.int .i64 0]) ?_ 1 _ rfl;refine blk_put (cs:=#[.int .i64 0,.int .i64 0]) ?_ 0 _ rfl;exact b1.out) Try.underlying23 rfl (by kernel_rfl)) rfl ?_
 exact ⟨rfl,bl HB⟩
end Go.Proofs.Ytjohcjfmlhihbaa.G
namespace Go.Proofs.Ytjohcjfmlhihbaa.P
open Go Go.RowKit Go.Proofs.Ytjohcjfmlhihbaa.G
open Go.Proofs.YtjohcjfmlhihbaaW.PrintWords Go.Proofs.YtjohcjfmlhihbaaW.PrintMore
structure Sm (A D:Nat) (q:Rat):Prop where
 num:q.num.natAbs ≤ A
 den:q.den ≤ D
theorem Sm.mono {A D B E:Nat} {q:Rat} (h:Sm A D q) (h1:A ≤ B) (h2:D ≤ E):Sm B E q:=⟨Nat.le_trans h.num h1,Nat.le_trans h.den h2⟩
theorem Sm.int {A:Nat} {n:Int} (h:n.natAbs ≤ A):Sm A 1 (n:Rat):=⟨by rw [whole_num];exact h,by rw [whole_den];exact Nat.le_refl _⟩
theorem Sm.zero:Sm 0 1 (0:Rat):=⟨Nat.le_refl _,Nat.le_refl _⟩
theorem Sm.neg {A D:Nat} {q:Rat} (h:Sm A D q):Sm A D (-q):=⟨by rw [Rat.neg_num,Int.natAbs_neg];exact h.num,by rw [Rat.neg_den];exact h.den⟩
theorem Sm.add {A D B E:Nat} {p q:Rat} (h:Sm A D p) (k:Sm B E q):Sm (A * E + B * D) (D * E) (p + q) :=
 ⟨Nat.le_trans (add_num_le p q) (Nat.add_le_add (Nat.mul_le_mul h.num k.den) (Nat.mul_le_mul k.num h.den)),
  Nat.le_trans (Nat.le_of_dvd (Nat.mul_pos (den_pos p) (den_pos q)) (add_den_dvd p q)) (Nat.mul_le_mul h.den k.den)⟩
theorem Sm.sub {A D B E:Nat} {p q:Rat} (h:Sm A D p) (k:Sm B E q):Sm (A * E + B * D) (D * E) (p - q):=by rw [← sub_neg];exact h.add k.neg
theorem Sm.half {A D:Nat} {q:Rat} (h:Sm A D q):Sm A (D * 2) (q / 2):=by
 have e:q / 2 = mkRat q.num (q.den * 2):=(mk_over q (n:=2) (by omega)).symm
 rw [e]
 exact ⟨Nat.le_trans (num_le _ _) h.num,Nat.le_trans (den_le (by have:=den_pos q;omega)) (Nat.mul_le_mul_right _ h.den)⟩
theorem Sm.fits {A D B E:Nat} {p q:Rat} (h:Sm A D p) (k:Sm B E q) (h1:A * E + B * D < 9223372036854775808) (h2:D * E < 9223372036854775808):Fits p q :=
 ⟨Nat.lt_of_le_of_lt (Nat.add_le_add (Nat.mul_le_mul h.num k.den) (Nat.mul_le_mul k.num h.den)) h1,Nat.lt_of_le_of_lt (Nat.mul_le_mul h.den k.den) h2⟩
theorem restR_ge (e:Rat) (c:Rat):restR e c = if e < c then 0 else e - c:=by unfold restR;split <;> split <;> grind
section
variable {e:Rat} (he:Sm 2000000 400 e)
include he
theorem restS {c:Int} (h:0 ≤ c ∧ c ≤ 1000):Sm 2400000 400 (restR e (c:Rat)):=by
 unfold restR
 split
 ·exact (he.sub (Sm.int (A:=1000) (by omega))).mono (by decide) (by decide)
 ·exact Sm.zero.mono (by decide) (by decide)
theorem ev_rest {c:Int} (h:0 ≤ c ∧ c ≤ 1000):Ev (fun k=>shares_garment_1.f k c e.num (e.den:Int)) ((restR e (c:Rat)).num,((restR e (c:Rat)).den:Int)):=by
 unfold shares_garment_1.f shares_whole.f
 simp only [Option.bind_some]
 have hf:Fits e (c:Rat):=he.fits (Sm.int (A:=1000) (by omega)) (by decide) (by decide)
 have hm:=ev_minus hf
 rw [whole_num,whole_den] at hm
 refine Ev.bind hm ?_
 rw [restR_ge]
 by_cases hlt:e < (c:Rat)
 ·rw [if_pos hlt,if_pos ((sign_lt _ _).2 hlt)];exact Ev.now _
 ·rw [if_neg hlt,if_neg (fun h=>hlt ((sign_lt _ _).1 h))];exact Ev.now _
theorem ev_rrest {c:Int} (h:0 ≤ c ∧ c ≤ 1000):Ev (fun k=>numnahref07_rest.f k e.num (e.den:Int) c) ((restR e (c:Rat)).num,((restR e (c:Rat)).den:Int)):=by
 unfold numnahref07_rest.f numnahref07_Whole.f
 simp only [Option.bind_some]
 have hf:Fits e (c:Rat):=he.fits (Sm.int (A:=1000) (by omega)) (by decide) (by decide)
 have hf':Fits (c:Rat) e:=(Sm.int (A:=1000) (by omega)).fits he (by decide) (by decide)
 have hl:=rless hf'
 rw [whole_num,whole_den] at hl
 have hl':numnahref07_Less.f c 1 e.num (e.den:Int) = some (decide ((c:Rat) < e)):=hl
 simp only [hl',Option.bind_some]
 unfold restR
 by_cases hlt:(c:Rat) < e
 ·rw [if_pos hlt]
  refine Ev.congr (fun k=>if_pos (decide_eq_true hlt)) ?_
  have hm:=ev_rsub hf
  rw [whole_num,whole_den] at hm
  exact Ev.bind hm (Ev.now _)
 ·rw [if_neg hlt]
  exact Ev.congr (fun k=>if_neg (by simpa using hlt)) (Ev.now _)
theorem ev_garment {a b:Int} (ha:0 ≤ a ∧ a ≤ 1000) (hb:0 ≤ b ∧ b ≤ 1000) :
  Ev (fun k=>shares_garment.f k e.num (e.den:Int) a b) ((garR e (a:Rat) (b:Rat)).num,((garR e (a:Rat) (b:Rat)).den:Int),(garR e (b:Rat) (a:Rat)).num,((garR e (b:Rat) (a:Rat)).den:Int)):=by
 unfold shares_garment.f
 refine Ev.bind (ev_rest he hb) (Ev.bind (ev_rest he ha) ?_)
 have sx:=restS he hb
 have sy:=restS he ha
 refine Ev.bind (ev_add (sx.fits sy (by decide) (by decide))) ?_
 have sxy:=sx.add sy
 refine Ev.bind (ev_minus (he.fits sxy (by decide) (by decide))) ?_
 have sm:=he.sub sxy
 refine Ev.bind (ev_over _ (n:=2) (by omega) (Nat.lt_of_le_of_lt sm.num (by decide)) (Nat.lt_of_le_of_lt (Nat.mul_le_mul_right _ sm.den) (by decide))) ?_
 have sh:=sm.half
 refine Ev.bind (ev_add (sx.fits sh (by decide) (by decide))) (Ev.bind (ev_add (sy.fits sh (by decide) (by decide))) ?_)
 have e1:restR e (b:Rat) + (e - (restR e (b:Rat) + restR e (a:Rat))) / ((2:Nat):Rat) = garR e (a:Rat) (b:Rat):=by
  unfold garR;push_cast;grind
 have e2:restR e (a:Rat) + (e - (restR e (b:Rat) + restR e (a:Rat))) / ((2:Nat):Rat) = garR e (b:Rat) (a:Rat):=by
  unfold garR;push_cast;grind
 rw [← e1,← e2]
 exact Ev.now _
theorem ev_rgarment {a b:Int} (ha:0 ≤ a ∧ a ≤ 1000) (hb:0 ≤ b ∧ b ≤ 1000) :
  Ev (fun k=>numnahref07_Garment.f k e.num (e.den:Int) a b) ((garR e (a:Rat) (b:Rat)).num,((garR e (a:Rat) (b:Rat)).den:Int)):=by
 unfold numnahref07_Garment.f
 refine Ev.bind (ev_rrest he hb) (Ev.bind (ev_rrest he ha) ?_)
 have sx:=restS he hb
 have sy:=restS he ha
 refine Ev.bind (ev_rsub (he.fits sx (by decide) (by decide))) ?_
 have s1:=he.sub sx
 refine Ev.bind (ev_rsub (s1.fits sy (by decide) (by decide))) ?_
 have s2:=s1.sub sy
 refine Ev.bind (ev_rhalf (Nat.lt_of_le_of_lt s2.num (by decide)) (by have:=s2.den;omega)) ?_
 refine Ev.bind (ev_radd (sx.fits s2.half (by decide) (by decide))) ?_
 exact Ev.now _
end
end Go.Proofs.Ytjohcjfmlhihbaa.P
namespace Go.Proofs.Ytjohcjfmlhihbaa.P
open Go Go.RowKit Go.Proofs.Ytjohcjfmlhihbaa.G
open Go.Proofs.YtjohcjfmlhihbaaW.PrintWords Go.Proofs.YtjohcjfmlhihbaaW.PrintMore
def encQ (q:Rat):S23:=⟨q.num,(q.den:Int)⟩
def encL (l:List Rat):List S23:=l.map encQ
theorem encL_length (l:List Rat):(encL l).length = l.length:=List.length_map _
theorem rdE {l:List Rat} {i:Nat} (h:i < l.length):rd_T23 (encL l) (i:Int) = encQ l[i]:=by
 unfold rd_T23 encL
 simp [h]
def nI (l:List Nat):List Int:=l.map Int.ofNat
theorem nI_length (l:List Nat):(nI l).length = l.length:=List.length_map _
theorem rdN {l:List Nat} {i:Nat} (h:i < l.length):rd (nI l) (i:Int) = (l[i]:Int):=by
 unfold rd nI
 simp [h]
section
variable {q:List Rat} (hf:∀ x ∈ q,∀ y ∈ q,Fits x y) (hn:q.length < 20)
structure On (q:List Rat) (σ:List Nat) (m j:Nat):Prop where
 perm:σ.Perm (List.range q.length)
 ord:∀ a b,a < b → b < m → b ≠ j → q.getD (σ.getD a 0) 0 ≤ q.getD (σ.getD b 0) 0
theorem On.len {q:List Rat} {σ:List Nat} {m j:Nat} (h:On q σ m j):σ.length = q.length:=by rw [h.perm.length_eq,List.length_range]
theorem On.lt {q:List Rat} {σ:List Nat} {m j:Nat} (h:On q σ m j) {i:Nat} (hi:i < σ.length):σ[i] < q.length:=List.mem_range.1 (h.perm.mem_iff.1 (List.getElem_mem hi))
include hf
theorem ev_less {a b:Nat} (ha:a < q.length) (hb:b < q.length):Ev (fun k=>api_Frac_1.f k (a:Int) (b:Int) 0 (encL q)) (cmpR q[a] q[b]):=by
 unfold api_Frac_1.f
 rw [encL_length]
 simp only [if_pos (show (0:Int) ≤ (a:Int) by omega),if_pos (show (a:Int) < (q.length:Int) by omega),if_pos (show (0:Int) ≤ (b:Int) by omega),if_pos (show (b:Int) < (q.length:Int) by omega),rdE ha,rdE hb]
 exact Ev.bind (ev_compare (hf _ (List.getElem_mem ha) _ (List.getElem_mem hb))) (Ev.now _)
include hn
theorem sort_l1 {i:Nat} (hi:i < q.length) (Q:List Nat → Prop)
  (out:∀ σ,On q σ (i + 1) (i + 1) → ∃ τ,Q τ ∧ Ev (fun k=>slices_insertionSortCmpFunc_int.l0 k (nI σ) 0 (q.length:Int) (encL q) ((i + 1:Nat):Int)) (nI τ)) :
  ∀ (j:Nat) (σ:List Nat),j ≤ i → On q σ (i + 1) j → ∃ τ,Q τ ∧ Ev (fun k=>slices_insertionSortCmpFunc_int.l1 k (nI σ) 0 (q.length:Int) (encL q) (i:Int) (j:Int)) (nI τ):=by
 intro j
 induction j with
 | zero =>
  intro σ _ h
  obtain ⟨τ,hτ,he⟩:=out σ ⟨h.perm,fun a b hab hb _=>h.ord a b hab hb (by omega)⟩
  refine ⟨τ,hτ,Ev.step (fun k=>?_) he⟩
  rw [slices_insertionSortCmpFunc_int.l1,if_neg (by omega),wrap_succ (by omega)]
 | succ j ih =>
  intro σ hj h
  have hlen:=h.len
  have hj1:j + 1 < σ.length:=by omega
  have hj0:j < σ.length:=by omega
  have l1:=h.lt hj1
  have l0:=h.lt hj0
  have hev:=ev_less hf l1 l0
  have ew:wrap64 (((j + 1:Nat):Int) - 1) = (j:Int):=by unfold wrap64;omega
  have g1:σ.getD (j + 1) 0 = σ[j + 1]:=by simp [hj1]
  have g0:σ.getD j 0 = σ[j]:=by simp [hj0]
  have v1:q.getD σ[j + 1] 0 = q[σ[j + 1]]:=by simp [l1]
  have v0:q.getD σ[j] 0 = q[σ[j]]:=by simp [l0]
  have start:∀ k,slices_insertionSortCmpFunc_int.l1 (k + 1) (nI σ) 0 (q.length:Int) (encL q) (i:Int) ((j + 1:Nat):Int) = (api_Frac_1.f k ((σ[j + 1]:Nat):Int) ((σ[j]:Nat):Int) 0 (encL q)).bind fun t=>if t < 0 then slices_insertionSortCmpFunc_int.l1 k (((nI σ).set (j + 1) ((σ[j]:Nat):Int)).set j ((σ[j + 1]:Nat):Int)) 0 (q.length:Int) (encL q) (i:Int) (j:Int) else slices_insertionSortCmpFunc_int.l0 k (nI σ) 0 (q.length:Int) (encL q) ((i + 1:Nat):Int):=by
   intro k
   rw [slices_insertionSortCmpFunc_int.l1,ew,nI_length,if_pos (by omega),if_pos (by omega),if_pos (by omega),if_pos (by omega),if_pos (by omega),rdN hj1,rdN hj0,Int.toNat_natCast,Int.toNat_natCast,wrap_succ (by omega)]
  by_cases hlt:q[σ[j + 1]] < q[σ[j]]
  ·obtain ⟨σ',hσ'⟩:∃ σ',σ' = (σ.set (j + 1) σ[j]).set j σ[j + 1]:=⟨_,rfl⟩
   have hget:∀ a,σ'.getD a 0 = if a = j then σ[j + 1] else if a = j + 1 then σ[j] else σ.getD a 0:=by
    intro a
    rw [hσ']
    simp only [List.getD_eq_getElem?_getD,List.getElem?_set]
    by_cases e1:a = j
    ·subst e1;simp [hj0]
    ·rw [if_neg (fun e=>e1 e.symm),if_neg e1]
     by_cases e2:a = j + 1
     ·subst e2;simp [hj1]
     ·rw [if_neg (fun e=>e2 e.symm),if_neg e2]
   have hp:σ'.Perm σ:=by rw [hσ'];exact List.set_set_perm (i:=j + 1) (j:=j) hj1 hj0
   have hon:On q σ' (i + 1) j:=⟨hp.trans h.perm,fun a b hab hb hbj=>by
    rw [hget a,hget b,if_neg hbj]
    by_cases b1:b = j + 1
    ·rw [if_pos b1]
     by_cases a1:a = j
     ·rw [if_pos a1,v1,v0];exact Rat.le_of_lt hlt
     ·rw [if_neg a1,if_neg (by omega),← g0]
      exact h.ord a j (by omega) (by omega) (by omega)
    ·rw [if_neg b1]
     by_cases a1:a = j
     ·rw [if_pos a1,← g1]
      exact h.ord (j + 1) b (by omega) hb (by omega)
     ·rw [if_neg a1]
      by_cases a2:a = j + 1
      ·rw [if_pos a2,← g0]
       exact h.ord j b (by omega) hb (by omega)
      ·rw [if_neg a2]
       exact h.ord a b hab hb b1⟩
   obtain ⟨τ,hτ,he⟩:=ih σ' (by omega) hon
   refine ⟨τ,hτ,Ev.step start (Ev.bind hev ?_)⟩
   refine Ev.congr (fun k=>if_pos ((cmpR_lt _ _).2 hlt)) ?_
   have e:((nI σ).set (j + 1) ((σ[j]:Nat):Int)).set j ((σ[j + 1]:Nat):Int) = nI σ':=by
    rw [hσ']
    unfold nI
    rw [List.map_set,List.map_set]
    rfl
   rw [e]
   exact he
  ·obtain ⟨τ,hτ,he⟩:=out σ ⟨h.perm,fun a b hab hb _=>by
    by_cases b1:b = j + 1
    ·subst b1
     have hle:q[σ[j]] ≤ q[σ[j + 1]]:=by grind
     by_cases a1:a = j
     ·rw [a1,g0,g1,v0,v1];exact hle
     ·have:=h.ord a j (by omega) (by omega) (by omega)
      rw [g0,v0] at this
      rw [g1,v1]
      exact Rat.le_trans this hle
    ·exact h.ord a b hab hb b1⟩
   refine ⟨τ,hτ,Ev.step start (Ev.bind hev ?_)⟩
   exact Ev.congr (fun k=>if_neg (fun e=>hlt ((cmpR_lt _ _).1 e))) he
theorem sort_l0:∀ (d i:Nat) (σ:List Nat),i + d = q.length → On q σ i i → ∃ τ,On q τ q.length q.length ∧ Ev (fun k=>slices_insertionSortCmpFunc_int.l0 k (nI σ) 0 (q.length:Int) (encL q) (i:Int)) (nI τ):=by
 intro d
 induction d with
 | zero =>
  intro i σ hi h
  have:i = q.length:=by omega
  subst this
  refine ⟨σ,h,Ev.step (f:=fun _=>some (nI σ)) (fun k=>?_) (Ev.now _)⟩
  rw [slices_insertionSortCmpFunc_int.l0,if_neg (by omega)]
 | succ d ih =>
  intro i σ hi h
  obtain ⟨τ,hτ,he⟩:=sort_l1 hf hn (i:=i) (by omega) (fun τ=>On q τ q.length q.length) (fun σ' h'=>ih (i + 1) σ' (by omega) h') i σ (Nat.le_refl _) ⟨h.perm,fun a b hab hb hbi=>h.ord a b hab (by omega) hbi⟩
  refine ⟨τ,hτ,Ev.step (fun k=>?_) he⟩
  rw [slices_insertionSortCmpFunc_int.l0,if_pos (by omega)]
theorem by_l0:∀ (d i:Nat),i + d = q.length → ∃ τ,On q τ q.length q.length ∧ Ev (fun k=>by_compare.l0 k (nI (List.range i)) (q.length:Int) (i:Int) (encL q)) (nI τ):=by
 intro d
 induction d with
 | zero =>
  intro i hi
  have:i = q.length:=by omega
  subst this
  have hs:∃ τ,On q τ q.length q.length ∧ Ev (fun k=>slices_insertionSortCmpFunc_int.l0 k (nI (List.range q.length)) 0 (q.length:Int) (encL q) 1) (nI τ):=by
   by_cases h0:q.length = 0
   ·refine ⟨List.range q.length,⟨List.Perm.refl _,fun a b _ hb _=>by omega⟩,Ev.step (f:=fun _=>some (nI (List.range q.length))) (fun k=>?_) (Ev.now _)⟩
    rw [slices_insertionSortCmpFunc_int.l0,if_neg (by omega)]
   ·obtain ⟨τ,hτ,he⟩:=sort_l0 hf hn (q.length - 1) 1 (List.range q.length) (by omega) ⟨List.Perm.refl _,fun a b hab hb _=>by omega⟩
    exact ⟨τ,hτ,he⟩
  obtain ⟨τ,hτ,he⟩:=hs
  refine ⟨τ,hτ,Ev.step (f:=fun k=>(slices_SortStableFunc_int_int.f k (nI (List.range q.length)) (encL q)).bind fun t=>some t) (fun k=>?_) (Ev.bind ?_ (Ev.now _))⟩
  ·rw [by_compare.l0,if_neg (by omega)]
  ·unfold slices_SortStableFunc_int_int.f slices_stableCmpFunc_int.f
   rw [nI_length,List.length_range]
   refine Ev.bind (a:=nI τ) ?_ (Ev.now _)
   refine Ev.congr (fun k=>if_pos (by omega)) ?_
   refine Ev.step (f:=fun k=>(slices_insertionSortCmpFunc_int.f k (nI (List.range q.length)) 0 (q.length:Int) (encL q)).bind fun t=>slices_stableCmpFunc_int.l1 k t) (fun k=>rfl) (Ev.bind (a:=nI τ) ?_ ?_)
   ·unfold slices_insertionSortCmpFunc_int.f
    have:wrap64 ((0:Int) + 1) = 1:=wrap_id (by omega) (by omega)
    rw [this]
    exact he
   ·exact Ev.step (f:=fun _=>some (nI τ)) (fun k=>rfl) (Ev.now _)
 | succ d ih =>
  intro i hi
  obtain ⟨τ,hτ,he⟩:=ih (i + 1) (by omega)
  refine ⟨τ,hτ,Ev.step (fun k=>?_) he⟩
  rw [by_compare.l0,if_pos (by omega),if_pos (by rw [nI_length,List.length_range];omega),wrap_succ (by omega)]
  congr 1
  unfold nI
  rw [List.range_succ,List.map_append]
  rfl
theorem ev_by:∃ τ:List Nat,τ.Perm (List.range q.length) ∧ (τ.map fun i=>q.getD i 0).Pairwise (· ≤ ·) ∧ Ev (fun k=>by_compare.f k (encL q)) (nI τ):=by
 obtain ⟨τ,hτ,he⟩:=by_l0 hf hn q.length 0 (by omega)
 refine ⟨τ,hτ.perm,?_,?_⟩
 ·rw [List.pairwise_iff_getElem]
  intro a b ha hb hab
  rw [List.length_map] at ha hb
  rw [List.getElem_map,List.getElem_map]
  have:=hτ.ord a b hab (by rw [← hτ.len];exact hb) (by rw [← hτ.len];omega)
  simpa [ha,hb] using this
 ·unfold by_compare.f
  rw [encL_length]
  exact he
end
end Go.Proofs.Ytjohcjfmlhihbaa.P
namespace Go.Proofs.Ytjohcjfmlhihbaa.P
open Go Go.RowKit Go.Proofs.Ytjohcjfmlhihbaa.G
open Go.Proofs.YtjohcjfmlhihbaaW.PrintWords Go.Proofs.YtjohcjfmlhihbaaW.PrintMore
theorem encL_get {l:List Rat} {i:Nat} (h:i < l.length):(encL l)[i]'(by rw [encL_length];exact h) = encQ l[i]:=List.getElem_map _
def fac:Nat → Nat
 | 0=>1
 | n + 1=>(n + 1) * fac n
theorem fac_pos:∀ n,1 ≤ fac n
 | 0=>Nat.le_refl _
 | n + 1=>by rw [fac];exact Nat.mul_pos (by omega) (fac_pos n)
theorem fac_mono:∀ {a b:Nat},a ≤ b → fac a ≤ fac b
 | a,0,h=>by rw [show a = 0 by omega];exact Nat.le_refl _
 | a,b + 1,h=>by
  by_cases e:a = b + 1
  ·rw [e];exact Nat.le_refl _
  ·have:=fac_mono (a:=a) (b:=b) (by omega)
   rw [fac]
   have:1 * fac b ≤ (b + 1) * fac b:=Nat.mul_le_mul_right _ (by omega)
   omega
structure OkE (E:Rat) (D left:Nat):Prop where
 lo:0 ≤ E
 hi:E ≤ ((10000:Nat):Rat)
 den:E.den ∣ D
 two:2 ∣ D
 pos:0 < D
 small:D * fac left ≤ 7257600
structure OkC (c:Rat):Prop where
 lo:0 ≤ c
 hi:c ≤ ((1000:Nat):Rat)
 den:c.den ∣ 2
theorem num_abs {q:Rat} {B D:Nat} (h0:0 ≤ q) (h1:q ≤ (B:Rat)) (hd:q.den ≤ D):q.num.natAbs ≤ B * D:=by
 have:=num_of h0 h1 hd
 omega
theorem OkC.sm {c:Rat} (h:OkC c):Sm 2000 2 c:=⟨num_abs h.lo h.hi (den_le_of_dvd h.den (by omega)),den_le_of_dvd h.den (by omega)⟩
theorem OkE.le {E:Rat} {D left:Nat} (h:OkE E D left):D ≤ 7257600:=by
 have h1:=h.small
 have h2:D * 1 ≤ D * fac left:=Nat.mul_le_mul_left _ (fac_pos left)
 omega
theorem OkE.sm {E:Rat} {D left:Nat} (h:OkE E D left):Sm 72576000000 7257600 E:=by
 have hd:=Nat.le_trans (den_le_of_dvd h.den h.pos) h.le
 exact ⟨num_abs h.lo h.hi hd,hd⟩
theorem over_den (E:Rat) {n:Nat} (hn:0 < n):(E / (n:Rat)).den ∣ E.den * n:=by
 rw [← mk_over E hn]
 exact den_dvd _ (Nat.ne_of_gt (Nat.mul_pos (den_pos E) hn))
theorem nat_pos_rat {n:Nat} (h:0 < n):(0:Rat) < (n:Rat):=Rat.natCast_pos.2 h
theorem over_le {E:Rat} {n:Nat} (hn:0 < n) (h:0 ≤ E):0 ≤ E / (n:Rat) ∧ E / (n:Rat) ≤ E:=by
 have hp:=nat_pos_rat hn
 have h1:(1:Rat) ≤ (n:Rat):=by
  have:((1:Nat):Rat) ≤ (n:Rat):=Rat.natCast_le_natCast.2 hn
  simpa using this
 have hm:E / (n:Rat) * (n:Rat) = E:=Rat.div_mul_cancel (by grind)
 have h0:0 ≤ E / (n:Rat):=by
  refine Rat.le_of_mul_le_mul_right (c:=(n:Rat)) ?_ hp
  rw [hm];grind
 refine ⟨h0,?_⟩
 have:=Rat.mul_le_mul_of_nonneg_left h1 h0
 rw [hm] at this
 grind
section
variable {E c:Rat} {D n:Nat} (h:OkE E D (n + 1)) (hc:OkC c)
include h
theorem eqD:D * (n + 1) * fac n ≤ 7257600:=by
 have:=h.small
 rw [fac] at this
 rw [Nat.mul_assoc];exact this
theorem eqD':D * (n + 1) ≤ 7257600:=by
 have h1:=eqD h
 have h2:D * (n + 1) * 1 ≤ D * (n + 1) * fac n:=Nat.mul_le_mul_left _ (fac_pos n)
 omega
theorem over_dvd:(E / ((n + 1:Nat):Rat)).den ∣ D * (n + 1):=Nat.dvd_trans (over_den E (by omega)) (Nat.mul_dvd_mul_right h.den _)
theorem over_sm:Sm 72576000000 7257600 (E / ((n + 1:Nat):Rat)):=by
 have hd:=Nat.le_trans (den_le_of_dvd (over_dvd h) (Nat.mul_pos h.pos (by omega))) (eqD' h)
 have hl:=over_le (n:=n + 1) (by omega) h.lo
 exact ⟨num_abs hl.1 (Rat.le_trans hl.2 h.hi) hd,hd⟩
include hc
theorem min_dvd:(min c (E / ((n + 1:Nat):Rat))).den ∣ D * (n + 1):=by
 rw [Rat.min_def]
 split
 ·exact Nat.dvd_trans (Nat.dvd_trans hc.den h.two) (Nat.dvd_mul_right _ _)
 ·exact over_dvd h
theorem min_lohi:0 ≤ min c (E / ((n + 1:Nat):Rat)) ∧ min c (E / ((n + 1:Nat):Rat)) ≤ E:=by
 have hl:=over_le (n:=n + 1) (by omega) h.lo
 have:=hc.lo
 rw [Rat.min_def]
 split <;> grind
theorem min_sm:Sm 72576000000 7257600 (min c (E / ((n + 1:Nat):Rat))):=by
 have hd:=Nat.le_trans (den_le_of_dvd (min_dvd h hc) (Nat.mul_pos h.pos (by omega))) (eqD' h)
 have hl:=min_lohi h hc
 exact ⟨num_abs hl.1 (Rat.le_trans hl.2 h.hi) hd,hd⟩
theorem OkE.next:OkE (E - min c (E / ((n + 1:Nat):Rat))) (D * (n + 1)) n:=by
 have hl:=min_lohi h hc
 exact ⟨by grind,by have:=h.hi;grind,sub_den_dvd' (Nat.dvd_trans h.den (Nat.dvd_mul_right _ _)) (min_dvd h hc) (Nat.mul_pos h.pos (by omega)),Nat.dvd_trans h.two (Nat.dvd_mul_right _ _),Nat.mul_pos h.pos (by omega),eqD h⟩
end
def fin:List S23 → List Nat → List Rat → List S23
 | out,p :: ps,v :: vs=>fin (out.set p (encQ v)) ps vs
 | out,_,_=>out
theorem fin_length:∀ (ps:List Nat) (vs:List Rat) (out:List S23),(fin out ps vs).length = out.length
 | [],_,_=>by simp [fin]
 | _ :: _,[],_=>by simp [fin]
 | p :: ps,v :: vs,out=>by rw [fin,fin_length ps vs];simp
theorem fin_get (g:Nat → Rat):∀ (ps:List Nat) (out:List S23) (i:Nat),i < out.length → (fin out ps (ps.map g)).getD i z23 = if i ∈ ps then encQ (g i) else out.getD i z23
 | [],out,i,_=>by simp [fin]
 | p :: ps,out,i,h=>by
  rw [List.map_cons,fin,fin_get g ps _ i (by simpa using h)]
  by_cases h1:i ∈ ps
  ·rw [if_pos h1,if_pos (List.mem_cons_of_mem _ h1)]
  ·rw [if_neg h1]
   by_cases h2:i = p
   ·subst h2
    rw [if_pos (by simp)]
    simp [h]
   ·rw [if_neg (by simp [h1,h2])]
    simp only [List.getD_eq_getElem?_getD,List.getElem?_set]
    rw [if_neg (fun e=>h2 e.symm)]
section
variable {q:List Rat} (hq:∀ c ∈ q,OkC c) (hn:q.length ≤ 10)
include hq hn
theorem equal_l0 (τ:List Nat) (hτ:∀ p ∈ τ,p < q.length) (hτl:τ.length = q.length):∀ (d j:Nat) (E:Rat) (D:Nat) (out:List S23),j + d = τ.length → out.length = q.length → OkE E D d →
  Ev (fun k=>shares_equal.l0 k (encL q) out (d:Int) (nI τ) (τ.length:Int) (j:Int) E.num (E.den:Int)) (fin out (τ.drop j) (eqS E ((τ.drop j).map fun i=>q.getD i 0))):=by
 intro d
 induction d with
 | zero =>
  intro j E D out hj _ _
  refine Ev.step (f:=fun _=>some out) (fun k=>?_) ?_
  ·rw [shares_equal.l0,if_neg (by omega)]
  ·rw [List.drop_eq_nil_of_le (by omega)]
   exact Ev.now _
 | succ d ih =>
  intro j E D out hj ho h
  have hjl:j < τ.length:=by omega
  have hp:=hτ _ (List.getElem_mem hjl)
  have hc:OkC q[τ[j]]:=hq _ (List.getElem_mem hp)
  have hg:q.getD τ[j] 0 = q[τ[j]]:=by simp [hp]
  have hdl:((τ.drop (j + 1)).map fun i=>q.getD i 0).length = d:=by rw [List.length_map,List.length_drop];omega
  rw [List.drop_eq_getElem_cons hjl,List.map_cons,eqS,fin,hdl,hg]
  have e1:=ev_over E (n:=d + 1) (by omega) (Nat.lt_of_le_of_lt h.sm.num (by decide)) (Nat.lt_of_le_of_lt (Nat.le_trans (Nat.mul_le_mul_right _ (den_le_of_dvd h.den h.pos)) (eqD' h)) (by decide))
  have e2:=ev_smaller (hc.sm.fits (over_sm h) (by decide) (by decide))
  have e3:=ev_minus (h.sm.fits (min_sm h hc) (by decide) (by decide))
  have e4:=ih (j + 1) _ _ (out.set τ[j] (encQ (min q[τ[j]] (E / ((d + 1:Nat):Rat))))) (by omega) (by rw [List.length_set];exact ho) (h.next hc)
  have hrd:rd_T23 (out.set τ[j] (encQ (min q[τ[j]] (E / ((d + 1:Nat):Rat))))) ((τ[j]:Nat):Int) = encQ (min q[τ[j]] (E / ((d + 1:Nat):Rat))):=by
   unfold rd_T23
   simp [ho,hp]
  have ew:wrap64 (((d + 1:Nat):Int) - 1) = (d:Int):=by unfold wrap64;omega
  have he:(⟨(min q[τ[j]] (E / ((d + 1:Nat):Rat))).num,((min q[τ[j]] (E / ((d + 1:Nat):Rat))).den:Int)⟩:S23) = encQ (min q[τ[j]] (E / ((d + 1:Nat):Rat))):=rfl
  obtain ⟨K1,e1⟩:=e1
  obtain ⟨K2,e2⟩:=e2
  obtain ⟨K3,e3⟩:=e3
  obtain ⟨K4,e4⟩:=e4
  refine ⟨K1 + K2 + K3 + K4 + 1,fun k hk=>?_⟩
  obtain ⟨m,rfl⟩:∃ m,k = m + 1:=⟨k - 1,by omega⟩
  have f1:=e1 m (by omega)
  have f2:=e2 m (by omega)
  have f3:=e3 m (by omega)
  have f4:=e4 m (by omega)
  show shares_equal.l0 (m + 1) _ _ _ _ _ _ _ _ = _
  rw [shares_equal.l0,nI_length,encL_length,if_pos (by omega),if_pos (by omega),if_pos (by omega),rdN hjl,if_pos (by omega),if_pos (by omega),rdE hp,wrap_succ (by omega),ew]
  simp only [encQ,f1,Option.bind_some,f2]
  rw [if_pos (by omega)]
  simp only [he,Int.toNat_natCast,hrd]
  simp only [encQ,f3,Option.bind_some]
  exact f4
theorem ev_equal {E:Rat} (h0:0 ≤ E) (h1:E ≤ tot q) (hd:E.den ∣ 2):∃ x,IsEq q E x ∧ Ev (fun k=>shares_equal.f k (encL q) E.num (E.den:Int)) (encL x):=by
 have hsm:∀ x ∈ q,∀ y ∈ q,Fits x y:=fun x hx y hy=>(hq x hx).sm.fits (hq y hy).sm (by decide) (by decide)
 obtain ⟨τ,hp,hs,hb⟩:=ev_by hsm (by omega)
 have hlt:∀ p ∈ τ,p < q.length:=fun p hpm=>List.mem_range.1 (hp.mem_iff.1 hpm)
 have hl:τ.length = q.length:=by rw [hp.length_eq,List.length_range]
 have hmap:(List.range q.length).map (fun i=>q.getD i 0) = q:=by
  refine List.ext_getElem (by simp) fun i hi1 hi2=>?_
  rw [List.getElem_map,List.getElem_range]
  simp [hi2]
 have hpm:(τ.map fun i=>q.getD i 0).Perm q:=by
  have:=hp.map (fun i=>q.getD i 0)
  rw [hmap] at this
  exact this
 have ht:tot (τ.map fun i=>q.getD i 0) = tot q:=tot_perm hpm
 have hpos:∀ c ∈ τ.map fun i=>q.getD i 0,0 ≤ c:=fun c hc=>(hq c (hpm.mem_iff.1 hc)).lo
 obtain ⟨L,k1,k2,_⟩:=eqS_spec (τ.map fun i=>q.getD i 0) E hs h0 (by rw [ht];exact h1) hpos
 have hq0:∀ c ∈ q,0 ≤ c:=fun c hc=>(hq c hc).lo
 have hE:E ≤ ((10000:Nat):Rat):=by
  have a1:tot q ≤ tot (q.map fun _=>((1000:Nat):Rat)):=by
   have:=tot_le (f:=fun c=>c) (g:=fun _=>((1000:Nat):Rat)) (l:=q) (fun c hc=>(hq c hc).hi)
   rwa [List.map_id'] at this
  rw [tot_const] at a1
  have a2:(q.length:Rat) * ((1000:Nat):Rat) ≤ ((10000:Nat):Rat):=by
   have:((q.length * 1000:Nat):Rat) ≤ ((10000:Nat):Rat):=Rat.natCast_le_natCast.2 (by omega)
   push_cast at this ⊢
   exact this
  grind
 have hfac:2 * fac q.length ≤ 7257600:=by
  have:=fac_mono hn
  have e:fac 10 = 3628800:=by decide
  omega
 have hok:OkE E 2 q.length:=⟨h0,hE,hd,Nat.dvd_refl _,by omega,hfac⟩
 have hev:=equal_l0 hq hn τ hlt hl q.length 0 E 2 (List.replicate q.length z23) (by omega) (by simp) hok
 rw [List.drop_zero,k1,List.map_map] at hev
 refine ⟨q.map fun c=>min c L,⟨L,rfl,?_⟩,?_⟩
 ·rw [← k2,k1]
  exact (tot_perm (hpm.map _)).symm
 ·have e:fin (List.replicate q.length z23) τ (τ.map ((fun c=>min c L) ∘ fun i=>q.getD i 0)) = encL (q.map fun c=>min c L):=by
   refine List.ext_getElem (by rw [fin_length,encL_length];simp) fun i hi1 hi2=>?_
   have hiq:i < q.length:=by rw [encL_length,List.length_map] at hi2;exact hi2
   have:=fin_get ((fun c=>min c L) ∘ fun i=>q.getD i 0) τ (List.replicate q.length z23) i (by simpa using hiq)
   rw [if_pos (hp.mem_iff.2 (List.mem_range.2 hiq))] at this
   rw [List.getD_eq_getElem?_getD,List.getElem?_eq_getElem hi1,Option.getD_some] at this
   rw [this,encL_get (by simpa using hiq),List.getElem_map]
   simp [hiq]
  rw [e] at hev
  unfold shares_equal.f
  rw [encL_length]
  refine Ev.congr (fun k=>if_pos (by omega)) ?_
  refine Ev.congr (fun k=>if_pos (by omega)) ?_
  refine Ev.bind hb ?_
  rw [nI_length,Int.toNat_natCast]
  rw [hl] at hev ⊢
  exact hev
end
end Go.Proofs.Ytjohcjfmlhihbaa.P
namespace Go.Proofs.Ytjohcjfmlhihbaa.P
open Go Go.RowKit Go.Proofs.Ytjohcjfmlhihbaa.G
open Go.Proofs.YtjohcjfmlhihbaaW.PrintWords Go.Proofs.YtjohcjfmlhihbaaW.PrintMore
theorem tot_den {D:Nat} (h0:0 < D):∀ {l:List Rat},(∀ c ∈ l,c.den ∣ D) → (tot l).den ∣ D
 | [],_=>Nat.one_dvd _
 | a :: l,h=>add_den_dvd' (h a (by simp)) (tot_den h0 (fun c hc=>h c (List.mem_cons_of_mem _ hc))) h0
theorem tot_min (L:Rat):∀ l:List Rat,tot (l.map fun c=>min c L) = tot (l.map fun c=>if c ≤ L then c else 0) + ((l.countP fun c=>decide (L < c):Nat):Rat) * L
 | []=>by simp [tot_nil];grind
 | a :: l=>by
  rw [List.map_cons,List.map_cons,tot_cons,tot_cons,tot_min L l,List.countP_cons,Rat.min_def]
  by_cases h:a ≤ L
  ·have h':¬ L < a:=by grind
   rw [if_pos h,if_pos h,if_neg (by simpa using h')]
   push_cast;grind
  ·have h':L < a:=by grind
   rw [if_neg h,if_neg h,if_pos (by simpa using h')]
   push_cast;grind
theorem IsEq.den {l:List Rat} {E:Rat} {x:List Rat} (h:IsEq l E x) {D:Nat} (h0:0 < D) (hl:∀ c ∈ l,c.den ∣ D) (hE:E.den ∣ D):∀ y ∈ x,∃ m,1 ≤ m ∧ m ≤ l.length ∧ y.den ∣ D * m:=by
 obtain ⟨L,rfl,ht⟩:=h
 intro y hy
 obtain ⟨c,hc,rfl⟩:=List.mem_map.1 hy
 have hlen:1 ≤ l.length:=List.length_pos_iff.2 (List.ne_nil_of_mem hc)
 rw [Rat.min_def]
 by_cases h1:c ≤ L
 ·rw [if_pos h1]
  exact ⟨1,Nat.le_refl _,hlen,by rw [Nat.mul_one];exact hl c hc⟩
 ·rw [if_neg h1]
  obtain ⟨m,hm⟩:∃ m,l.countP (fun c=>decide (L < c)) = m:=⟨_,rfl⟩
  have hm1:1 ≤ m:=by
   rw [← hm]
   exact List.countP_pos_iff.2 ⟨c,hc,by simp;grind⟩
  have hm2:m ≤ l.length:=by rw [← hm];exact List.countP_le_length
  rw [tot_min,hm] at ht
  have hS:(tot (l.map fun c=>if c ≤ L then c else 0)).den ∣ D:=tot_den h0 (fun z hz=>by
   obtain ⟨d,hd,rfl⟩:=List.mem_map.1 hz
   split
   ·exact hl d hd
   ·exact Nat.one_dvd _)
  have hp:=nat_pos_rat (n:=m) (by omega)
  have hL:L = (E - tot (l.map fun c=>if c ≤ L then c else 0)) / (m:Rat):=by
   rw [← ht]
   have:(tot (l.map fun c=>if c ≤ L then c else 0) + (m:Rat) * L - tot (l.map fun c=>if c ≤ L then c else 0)) = L * (m:Rat):=by grind
   rw [this]
   exact (Rat.mul_div_cancel (by grind)).symm
  refine ⟨m,hm1,hm2,?_⟩
  rw [hL]
  exact Nat.dvd_trans (over_den _ (by omega)) (Nat.mul_dvd_mul_right (sub_den_dvd' hE hS h0) _)
theorem IsEq.den2 {l:List Rat} {E:Rat} {x:List Rat} (h:IsEq l E x) {D:Nat} (h0:0 < D) (hl:∀ c ∈ l,c.den ∣ D) (hE:E.den ∣ D) (hlen:1 ≤ l.length):∃ m,1 ≤ m ∧ m ≤ l.length ∧ ∀ y ∈ x,y.den ∣ D * m:=by
 obtain ⟨L,rfl,ht⟩:=h
 by_cases hall:∀ c ∈ l,c ≤ L
 ·refine ⟨1,Nat.le_refl _,hlen,fun y hy=>?_⟩
  obtain ⟨c,hc,rfl⟩:=List.mem_map.1 hy
  rw [Rat.min_def,if_pos (hall c hc),Nat.mul_one]
  exact hl c hc
 ·have hex:∃ c ∈ l,¬ c ≤ L:=by
   apply Classical.byContradiction
   intro hno
   exact hall fun c hc=>Classical.byContradiction fun hcl=>hno ⟨c,hc,hcl⟩
  obtain ⟨d,hd,hdL⟩:=hex
  obtain ⟨m,hm⟩:∃ m,l.countP (fun c=>decide (L < c)) = m:=⟨_,rfl⟩
  have hm1:1 ≤ m:=by
   rw [← hm]
   exact List.countP_pos_iff.2 ⟨d,hd,by simp;grind⟩
  have hm2:m ≤ l.length:=by rw [← hm];exact List.countP_le_length
  rw [tot_min,hm] at ht
  have hS:(tot (l.map fun c=>if c ≤ L then c else 0)).den ∣ D:=tot_den h0 (fun z hz=>by
   obtain ⟨d,hd,rfl⟩:=List.mem_map.1 hz
   split
   ·exact hl d hd
   ·exact Nat.one_dvd _)
  have hp:=nat_pos_rat (n:=m) (by omega)
  have hL:L = (E - tot (l.map fun c=>if c ≤ L then c else 0)) / (m:Rat):=by
   rw [← ht]
   have:(tot (l.map fun c=>if c ≤ L then c else 0) + (m:Rat) * L - tot (l.map fun c=>if c ≤ L then c else 0)) = L * (m:Rat):=by grind
   rw [this]
   exact (Rat.mul_div_cancel (by grind)).symm
  have hLd:L.den ∣ D * m:=by
   rw [hL]
   exact Nat.dvd_trans (over_den _ (by omega)) (Nat.mul_dvd_mul_right (sub_den_dvd' hE hS h0) _)
  refine ⟨m,hm1,hm2,fun y hy=>?_⟩
  obtain ⟨c,hc,rfl⟩:=List.mem_map.1 hy
  rw [Rat.min_def]
  split
  ·exact Nat.dvd_trans (hl c hc) (Nat.dvd_mul_right _ _)
  ·exact hLd
def cl (l:List Int):List Rat:=l.map fun n:Int=>(n:Rat)
theorem cl_length (l:List Int):(cl l).length = l.length:=List.length_map _
theorem tot_cl (l:List Int):tot (cl l) = (sI l:Rat):=cast_sum l
theorem int_rat_le {a b:Int}:(a:Rat) ≤ (b:Rat) ↔ a ≤ b:=Rat.intCast_le_intCast
theorem okC_int {n:Int} (h:0 ≤ n ∧ n ≤ 1000):OkC (n:Rat) :=
 ⟨by have:=int_rat_le.2 h.1;simpa using this,by have:=int_rat_le.2 h.2;simpa using this,by rw [whole_den];exact Nat.one_dvd _⟩
theorem okC_half {n:Int} (h:0 ≤ n ∧ n ≤ 1000):OkC ((n:Rat) / 2):=by
 have h0:=(okC_int h).lo
 have h1:=(okC_int h).hi
 have:=over_le (E:=(n:Rat)) (n:=2) (by omega) h0
 have e:((2:Nat):Rat) = 2:=rfl
 rw [e] at this
 refine ⟨this.1,Rat.le_trans this.2 h1,?_⟩
 have hd:=over_den (n:Rat) (n:=2) (by omega)
 rw [e,whole_den] at hd
 exact hd
theorem cl_okC {l:List Int} (h:IsCl l):∀ c ∈ cl l,OkC c:=fun c hc=>by
 obtain ⟨n,hn,rfl⟩:=List.mem_map.1 hc
 exact okC_int (h.mem n hn)
theorem cl_half_okC {l:List Int} (h:IsCl l):∀ c ∈ (cl l).map (· / 2),OkC c:=fun c hc=>by
 obtain ⟨d,hd,rfl⟩:=List.mem_map.1 hc
 obtain ⟨n,hn,rfl⟩:=List.mem_map.1 hd
 exact okC_half (h.mem n hn)
theorem cl_get {l:List Int} {i:Nat} (h:i < l.length):(cl l)[i]'(by rw [cl_length];exact h) = (l[i]:Rat):=List.getElem_map _
theorem take_encL (g:Rat → Rat) (q:List Rat) {i:Nat} (h:i < q.length):encL ((q.take i).map g) ++ [encQ (g q[i])] = encL ((q.take (i + 1)).map g):=by
 rw [List.take_succ_eq_append_getElem h,List.map_append]
 unfold encL
 rw [List.map_append]
 rfl
theorem encL_take_length (g:Rat → Rat) (q:List Rat) (i:Nat):(encL ((q.take i).map g)).length ≤ q.length:=by
 rw [encL_length,List.length_map,List.length_take];omega
section
variable {l:List Int} (h:IsCl l)
include h
theorem whole_l0:∀ (d i:Nat),i + d = l.length → Ev (fun k=>each_whole.l0 k (encL (((cl l).take i).map id)) l (l.length:Int) (i:Int)) (encL ((cl l).map id)):=by
 intro d
 have hl:=h.ten
 induction d with
 | zero =>
  intro i hi
  refine Ev.step (f:=fun _=>some (encL ((cl l).map id))) (fun k=>?_) (Ev.now _)
  rw [each_whole.l0,if_neg (by omega),List.take_of_length_le (by rw [cl_length];omega)]
 | succ d ih =>
  intro i hi
  have hil:i < l.length:=by omega
  have hlen:=encL_take_length id (cl l) i
  rw [cl_length] at hlen
  refine Ev.step (fun k=>?_) (ih (i + 1) (by omega))
  have hic:i < (cl l).length:=by rw [cl_length];exact hil
  have e:(⟨l[i],1⟩:S23) = encQ (id (cl l)[i]):=by rw [cl_get hil];unfold encQ;rw [id,whole_num,whole_den];rfl
  rw [each_whole.l0,if_pos (by omega),if_pos (by omega),if_pos (by omega),rd_get hil]
  simp only [shares_whole.f,Option.bind_some]
  rw [if_pos (by omega),e,take_encL id (cl l) (by rw [cl_length];exact hil),wrap_succ (by omega)]
theorem ev_whole (e:Int):Ev (fun k=>each_whole.f k l e) (encL (cl l)):=by
 have:=whole_l0 h l.length 0 (by omega)
 rw [List.map_id (cl l)] at this
 exact this
theorem halves_l0:∀ (d i:Nat),i + d = l.length → Ev (fun k=>each_halves.l0 k (encL (((cl l).take i).map (· / 2))) l (l.length:Int) (i:Int)) (encL ((cl l).map (· / 2))):=by
 intro d
 have hl:=h.ten
 induction d with
 | zero =>
  intro i hi
  refine Ev.step (f:=fun _=>some (encL ((cl l).map (· / 2)))) (fun k=>?_) (Ev.now _)
  rw [each_halves.l0,if_neg (by omega),List.take_of_length_le (by rw [cl_length];omega)]
 | succ d ih =>
  intro i hi
  have hil:i < l.length:=by omega
  have hlen:=encL_take_length (· / 2) (cl l) i
  rw [cl_length] at hlen
  have hm:=h.mem _ (List.getElem_mem hil)
  obtain ⟨K1,e1⟩:=ev_frac l[i] 2 (by omega) (by omega) (by omega)
  obtain ⟨K2,e2⟩:=ih (i + 1) (by omega)
  refine ⟨K1 + K2 + 1,fun k hk=>?_⟩
  obtain ⟨m,rfl⟩:∃ m,k = m + 1:=⟨k - 1,by omega⟩
  have f1:shares_frac.f m l[i] 2 = _:=e1 m (by omega)
  have f2:=e2 m (by omega)
  have e:(⟨(mkRat l[i] 2).num,((mkRat l[i] 2).den:Int)⟩:S23) = encQ ((cl l)[i]'(by rw [cl_length];exact hil) / 2):=by
   rw [cl_get hil,mk_frac];rfl
  show each_halves.l0 (m + 1) _ _ _ _ = _
  rw [each_halves.l0,if_pos (by omega),if_pos (by omega),if_pos (by omega),rd_get hil]
  simp only [shares_claims_halves_1.f,f1,Option.bind_some]
  rw [if_pos (by omega),e,take_encL (· / 2) (cl l) (by rw [cl_length];exact hil),wrap_succ (by omega)]
  exact f2
theorem ev_halves (e:Int):Ev (fun k=>shares_claims_halves.f k l e) (encL ((cl l).map (· / 2))):=by
 unfold shares_claims_halves.f each_halves.f
 exact Ev.bind (halves_l0 h l.length 0 (by omega)) (Ev.now _)
theorem prop_l0 {E:Int} (h0:0 ≤ E) (h1:E ≤ 10000) {a:Nat} (ha:0 < a) (ha2:a ≤ 10000):∀ (d i:Nat),i + d = l.length → Ev (fun k=>each_prop.l0 E (a:Int) k (encL (((cl l).take i).map fun c=>c * (E:Rat) / (a:Rat))) l (l.length:Int) (i:Int)) (encL ((cl l).map fun c=>c * (E:Rat) / (a:Rat))):=by
 intro d
 have hl:=h.ten
 induction d with
 | zero =>
  intro i hi
  refine Ev.step (f:=fun _=>some (encL ((cl l).map fun c=>c * (E:Rat) / (a:Rat)))) (fun k=>?_) (Ev.now _)
  rw [each_prop.l0,if_neg (by omega),List.take_of_length_le (by rw [cl_length];omega)]
 | succ d ih =>
  intro i hi
  have hil:i < l.length:=by omega
  have hlen:=encL_take_length (fun c=>c * (E:Rat) / (a:Rat)) (cl l) i
  rw [cl_length] at hlen
  have hm:=h.mem _ (List.getElem_mem hil)
  have hb:(l[i] * E).natAbs ≤ 1000 * 10000:=by
   rw [Int.natAbs_mul];exact Nat.mul_le_mul (by omega) (by omega)
  obtain ⟨K1,e1⟩:=ev_frac (l[i] * E) a ha (by omega) (by omega)
  obtain ⟨K2,e2⟩:=ih (i + 1) (by omega)
  refine ⟨K1 + K2 + 1,fun k hk=>?_⟩
  obtain ⟨m,rfl⟩:∃ m,k = m + 1:=⟨k - 1,by omega⟩
  have f1:=e1 m (by omega)
  have f2:=e2 m (by omega)
  have e:(⟨(mkRat (l[i] * E) a).num,((mkRat (l[i] * E) a).den:Int)⟩:S23) = encQ ((cl l)[i]'(by rw [cl_length];exact hil) * (E:Rat) / (a:Rat)):=by
   rw [cl_get hil,mk_frac];push_cast;rfl
  show each_prop.l0 _ _ (m + 1) _ _ _ _ = _
  rw [each_prop.l0,if_pos (by omega),if_pos (by omega),if_pos (by omega),rd_get hil]
  simp only [prop_1.f]
  rw [wrap_abs (by omega:(l[i] * E).natAbs < _)]
  simp only [f1,Option.bind_some]
  rw [if_pos (by omega),e,take_encL (fun c=>c * (E:Rat) / (a:Rat)) (cl l) (by rw [cl_length];exact hil),wrap_succ (by omega)]
  exact f2
theorem losses_l0 {g:Rat → Rat} (hg:∀ n:Int,0 ≤ n ∧ n ≤ 1000 → n ∈ l → Sm 20000 20 (g (n:Rat))):∀ (d i:Nat),i + d = l.length → Ev (fun k=>shares_claims_losses.l0 k (encL ((cl l).map g)) (encL (((cl l).take i).map fun c=>c - g c)) l (l.length:Int) (i:Int)) (encL ((cl l).map fun c=>c - g c)):=by
 intro d
 have hl:=h.ten
 induction d with
 | zero =>
  intro i hi
  refine Ev.step (f:=fun _=>some (encL ((cl l).map fun c=>c - g c))) (fun k=>?_) (Ev.now _)
  rw [shares_claims_losses.l0,if_neg (by omega),List.take_of_length_le (by rw [cl_length];omega)]
 | succ d ih =>
  intro i hi
  have hil:i < l.length:=by omega
  have hic:i < (cl l).length:=by rw [cl_length];exact hil
  have hlen:=encL_take_length (fun c=>c - g c) (cl l) i
  rw [cl_length] at hlen
  have hm:=h.mem _ (List.getElem_mem hil)
  have e1:=ev_minus ((Sm.int (n:=l[i]) (A:=1000) (by omega)).fits (hg _ hm (List.getElem_mem hil)) (by decide) (by decide))
  rw [whole_num,whole_den] at e1
  obtain ⟨K1,e1⟩:=e1
  obtain ⟨K2,e2⟩:=ih (i + 1) (by omega)
  refine ⟨K1 + K2 + 1,fun k hk=>?_⟩
  obtain ⟨m,rfl⟩:∃ m,k = m + 1:=⟨k - 1,by omega⟩
  have f1:shares_minus.f m l[i] 1 _ _ = _:=e1 m (by omega)
  have f2:=e2 m (by omega)
  have hrd:rd_T23 (encL ((cl l).map g)) (i:Int) = encQ (g (l[i]:Rat)):=by
   rw [rdE (by rw [List.length_map];exact hic),List.getElem_map,cl_get hil]
  have e:(⟨((l[i]:Rat) - g (l[i]:Rat)).num,(((l[i]:Rat) - g (l[i]:Rat)).den:Int)⟩:S23) = encQ ((fun c=>c - g c) (cl l)[i]):=by
   rw [cl_get hil];rfl
  show shares_claims_losses.l0 (m + 1) _ _ _ _ _ = _
  rw [shares_claims_losses.l0,if_pos (by omega),if_pos (by omega),if_pos (by omega),rd_get hil,encL_length,List.length_map,cl_length]
  simp only [shares_whole.f,Option.bind_some]
  rw [if_pos (by omega),hrd]
  simp only [encQ,f1,Option.bind_some]
  rw [if_pos (by omega),e,take_encL (fun c=>c - g c) (cl l) hic,wrap_succ (by omega)]
  exact f2
theorem talmud_l0 {g:Rat → Rat} (hg:∀ n:Int,0 ≤ n ∧ n ≤ 1000 → n ∈ l → Sm 20000 20 (g (n:Rat))):∀ (d i:Nat),i + d = l.length → Ev (fun k=>shares_claims_talmud.l0 k (encL ((cl l).map g)) (encL (((cl l).take i).map fun c=>c - g c)) l (l.length:Int) (i:Int)) (encL ((cl l).map fun c=>c - g c)):=by
 intro d
 have hl:=h.ten
 induction d with
 | zero =>
  intro i hi
  refine Ev.step (f:=fun _=>some (encL ((cl l).map fun c=>c - g c))) (fun k=>?_) (Ev.now _)
  rw [shares_claims_talmud.l0,if_neg (by omega),List.take_of_length_le (by rw [cl_length];omega)]
 | succ d ih =>
  intro i hi
  have hil:i < l.length:=by omega
  have hic:i < (cl l).length:=by rw [cl_length];exact hil
  have hlen:=encL_take_length (fun c=>c - g c) (cl l) i
  rw [cl_length] at hlen
  have hm:=h.mem _ (List.getElem_mem hil)
  have e1:=ev_minus ((Sm.int (n:=l[i]) (A:=1000) (by omega)).fits (hg _ hm (List.getElem_mem hil)) (by decide) (by decide))
  rw [whole_num,whole_den] at e1
  obtain ⟨K1,e1⟩:=e1
  obtain ⟨K2,e2⟩:=ih (i + 1) (by omega)
  refine ⟨K1 + K2 + 1,fun k hk=>?_⟩
  obtain ⟨m,rfl⟩:∃ m,k = m + 1:=⟨k - 1,by omega⟩
  have f1:shares_minus.f m l[i] 1 _ _ = _:=e1 m (by omega)
  have f2:=e2 m (by omega)
  have hrd:rd_T23 (encL ((cl l).map g)) (i:Int) = encQ (g (l[i]:Rat)):=by
   rw [rdE (by rw [List.length_map];exact hic),List.getElem_map,cl_get hil]
  have e:(⟨((l[i]:Rat) - g (l[i]:Rat)).num,(((l[i]:Rat) - g (l[i]:Rat)).den:Int)⟩:S23) = encQ ((fun c=>c - g c) (cl l)[i]):=by
   rw [cl_get hil];rfl
  show shares_claims_talmud.l0 (m + 1) _ _ _ _ _ = _
  rw [shares_claims_talmud.l0,if_pos (by omega),if_pos (by omega),if_pos (by omega),rd_get hil,encL_length,List.length_map,cl_length]
  simp only [shares_whole.f,Option.bind_some]
  rw [if_pos (by omega),hrd]
  simp only [encQ,f1,Option.bind_some]
  rw [if_pos (by omega),e,take_encL (fun c=>c - g c) (cl l) hic,wrap_succ (by omega)]
  exact f2
end
theorem piniles_l0 {q:List Rat} (hq:∀ c ∈ q,OkC c) (hl:q.length ≤ 10) {g:Rat → Rat} (hg:∀ c ∈ q,Sm 20000 20 (g c)):∀ (d i:Nat),i + d = q.length → Ev (fun k=>shares_claims_piniles.l0 k (encL (q.map g)) (encL ((q.take i).map fun c=>c + g c)) (encL q) (q.length:Int) (i:Int)) (encL (q.map fun c=>c + g c)):=by
 intro d
 induction d with
 | zero =>
  intro i hi
  refine Ev.step (f:=fun _=>some (encL (q.map fun c=>c + g c))) (fun k=>?_) (Ev.now _)
  rw [shares_claims_piniles.l0,if_neg (by omega),List.take_of_length_le (by omega)]
 | succ d ih =>
  intro i hi
  have hil:i < q.length:=by omega
  have hlen:=encL_take_length (fun c=>c + g c) q i
  have e1:=ev_add ((hq _ (List.getElem_mem hil)).sm.fits (hg _ (List.getElem_mem hil)) (by decide) (by decide))
  obtain ⟨K1,e1⟩:=e1
  obtain ⟨K2,e2⟩:=ih (i + 1) (by omega)
  refine ⟨K1 + K2 + 1,fun k hk=>?_⟩
  obtain ⟨m,rfl⟩:∃ m,k = m + 1:=⟨k - 1,by omega⟩
  have f1:=e1 m (by omega)
  have f2:=e2 m (by omega)
  have hrd:rd_T23 (encL (q.map g)) (i:Int) = encQ (g q[i]):=by rw [rdE (by rw [List.length_map];exact hil),List.getElem_map]
  have e:(⟨(q[i] + g q[i]).num,((q[i] + g q[i]).den:Int)⟩:S23) = encQ ((fun c=>c + g c) q[i]):=rfl
  show shares_claims_piniles.l0 (m + 1) _ _ _ _ _ = _
  rw [shares_claims_piniles.l0,encL_length,encL_length,List.length_map,if_pos (by omega),if_pos (by omega),if_pos (by omega),if_pos (by omega),rdE hil,hrd]
  simp only [encQ,f1,Option.bind_some]
  rw [if_pos (by omega),e,take_encL (fun c=>c + g c) q hil,wrap_succ (by omega)]
  exact f2
end Go.Proofs.Ytjohcjfmlhihbaa.P
namespace Go.Proofs.Ytjohcjfmlhihbaa.G
open Go.RowKit Go.Proofs.YtjohcjfmlhihbaaW.PrintWords Go.Proofs.YtjohcjfmlhihbaaW.PrintLast Go.Proofs.YtjohcjfmlhihbaaW.PrintMore
set_option maxHeartbeats 8000000
set_option maxRecDepth 100000
attribute [local go_sem] cond_true cond_false fld23_0 fld23_1 fld45_0 fld45_1 fld109_0 fld109_1 fld94_0 fld94_1 max2_int min2_int max_two min_two max_three min_three max_four min_four
mutual
def numnahref07_equal.l0:Nat → List Int → Int → List (S23) → List Bool → Int → Int → Option ((List (S23)))
 | 0,_,_,_,_,_,_=>none
 | k + 1,x0,x1,x5,x6,x7,x8=>if x8 < (x0.length:Int) then (if 0 ≤ x8 then (if x8 < (x6.length:Int) then (if rdOf false x6 x8 = true then (numnahref07_equal.l0 k x0 x1 x5 x6 x7 (wrap64 (x8 + 1))) else (if (wrap64 ((rd x0 x8) * x7)) > x1 then (numnahref07_equal.l0 k x0 x1 x5 x6 x7 (wrap64 (x8 + 1))) else ((numnahref07_Whole.f (rd x0 x8)).bind fun d7=>(if x8 < (x5.length:Int) then (numnahref07_equal.l0 k x0 (wrap64 (x1 - (rd x0 x8))) (x5.set (x8:Int).toNat (⟨d7.1,d7.2⟩:S23)) (x6.set (x8:Int).toNat true) (wrap64 (x7 - 1)) 0) else (none))))) else (none)) else (none)) else (numnahref07_equal.l1 k x0 x1 x5 x6 x7 0)
def numnahref07_equal.l1:Nat → List Int → Int → List (S23) → List Bool → Int → Int → Option ((List (S23)))
 | 0,_,_,_,_,_,_=>none
 | k + 1,x0,x1,x5,x6,x7,x9=>if x9 < (x0.length:Int) then (if 0 ≤ x9 then (if x9 < (x6.length:Int) then (if rdOf false x6 x9 = true then (numnahref07_equal.l1 k x0 x1 x5 x6 x7 (wrap64 (x9 + 1))) else ((numnahref07_Reduced.f k x1 x7).bind fun d8=>(if x9 < (x5.length:Int) then (numnahref07_equal.l1 k x0 x1 (x5.set (x9:Int).toNat (⟨d8.1,d8.2⟩:S23)) x6 x7 (wrap64 (x9 + 1))) else (none)))) else (none)) else (none)) else (some x5)
end
def numnahref07_equal.f (k:Nat) (l0:List Int) (a1:Int):Option ((List (S23))):=if 0 ≤ (l0.length:Int) then (if ((l0.length:Int):Int).toNat ≤ 17592186044416 then (if ((l0.length:Int):Int).toNat ≤ 281474976710656 then (numnahref07_equal.l0 k l0 a1 (List.replicate ((l0.length:Int):Int).toNat z23) (List.replicate ((l0.length:Int):Int).toNat false) (l0.length:Int) 0) else (none)) else (none)) else (none)
theorem numnahref07_equal.mono_l:∀ k,(∀ y0 y1 y2 y3 y4 y5,LeO (numnahref07_equal.l0 k y0 y1 y2 y3 y4 y5) (numnahref07_equal.l0 (k + 1) y0 y1 y2 y3 y4 y5)) ∧ (∀ y0 y1 y2 y3 y4 y5,LeO (numnahref07_equal.l1 k y0 y1 y2 y3 y4 y5) (numnahref07_equal.l1 (k + 1) y0 y1 y2 y3 y4 y5))
 | 0=>⟨fun _ _ _ _ _ _ r h=>by simp [numnahref07_equal.l0] at h,fun _ _ _ _ _ _ r h=>by simp [numnahref07_equal.l1] at h⟩
 | k + 1=>by
  obtain ⟨r7,r8⟩:=numnahref07_equal.mono_l k
  refine ⟨?_,?_⟩
  ·intro y0 y1 y2 y3 y4 y5
   unfold numnahref07_equal.l0
   repeat' first
   | (with_reducible first | exact r7 _ _ _ _ _ _ | exact r8 _ _ _ _ _ _ | exact numnahref07_Reduced.mono _ _ _ | exact LeO.refl _ | exact LeO.none _ | refine LeO.ite ?_ ?_ | refine LeO.bind ?_ (fun _=>?_))
   | exact LeO.none _ | refine LeO.ite ?_ ?_ | refine LeO.bind ?_ (fun _=>?_)
  intro y0 y1 y2 y3 y4 y5
  unfold numnahref07_equal.l1
  repeat' first
  | (with_reducible first | exact r7 _ _ _ _ _ _ | exact r8 _ _ _ _ _ _ | exact numnahref07_Reduced.mono _ _ _ | exact LeO.refl _ | exact LeO.none _ | refine LeO.ite ?_ ?_ | refine LeO.bind ?_ (fun _=>?_))
  | exact LeO.none _ | refine LeO.ite ?_ ?_ | refine LeO.bind ?_ (fun _=>?_)
theorem numnahref07_equal.mono:∀ a0 a1 k,LeO (numnahref07_equal.f k a0 a1) (numnahref07_equal.f (k + 1) a0 a1):=by
 intro a0 a1 k
 obtain ⟨r7,r8⟩:=numnahref07_equal.mono_l k
 unfold numnahref07_equal.f
 repeat' first
   | (with_reducible first | exact r7 _ _ _ _ _ _ | exact r8 _ _ _ _ _ _ | exact numnahref07_Reduced.mono _ _ _ | exact LeO.refl _ | exact LeO.none _ | refine LeO.ite ?_ ?_ | refine LeO.bind ?_ (fun _=>?_))
   | exact LeO.none _ | refine LeO.ite ?_ ?_ | refine LeO.bind ?_ (fun _=>?_)
theorem numnahref07_equal.calls (k:Nat) (A0:Option Addr) (c0:Nat) (l0:List Int) (a1:Int) (r:List (S23)) (w:World) (z8:Kd.C (Kd.int .i64) w A0 l0.length l0) (z9:l0.length ≤ c0) (h:numnahref07_equal.f k l0 a1 = some r) :
  Calls Try.prog 75 #[.slice A0 l0.length c0,.int .i64 a1] w fun e w'=>∃ A1:Value,e = .returned (A1) ∧ Kd.R k23 23 w' w.heap.size (fun _=>True) A1 r ∧ Below w.heap.size w w':=by
 have C3:=Try.underlying23
 have r9:=A_ z8
 have F2:=A_ z9
 clear z8 z9
 have HB:=A_ (Below.refl w.heap.size w)
 have H:(if 0 ≤ (l0.length:Int) then (if ((l0.length:Int):Int).toNat ≤ 17592186044416 then (if ((l0.length:Int):Int).toNat ≤ 281474976710656 then (numnahref07_equal.l0 k l0 a1 (List.replicate ((l0.length:Int):Int).toNat z23) (List.replicate ((l0.length:Int):Int).toNat false) (l0.length:Int) 0) else (none)) else (none)) else (none)) = some r:=h
 clear h
 replace H:=gd H
 obtain ⟨c3,H⟩:=H
 have C4:=eq_true c3
 have C5:=decide_eq_true c3
 clear c3
 replace H:=gd H
 obtain ⟨c4,H⟩:=H
 have C6:=eq_true c4
 have C7:=decide_eq_true c4
 clear c4
 obtain ⟨s3,e9⟩:∃ y_:List (S23),y_ = (List.replicate ((l0.length:Int):Int).toNat z23):=⟨_,rfl⟩
 rw [← e9] at H
 have i8:=A_ e9
 clear e9
 replace H:=gd H
 obtain ⟨c5,H⟩:=H
 have C8:=eq_true c5
 have C9:=decide_eq_true c5
 clear c5
 obtain ⟨s4,h0⟩:∃ y_:List Bool,y_ = (List.replicate ((l0.length:Int):Int).toNat false):=⟨_,rfl⟩
 rw [← h0] at H
 have i9:=A_ h0
 clear h0
 have H':=A_ H
 clear H
 go_enter Try.func75,Try.ntmps75
 go_wp2_with (first | ((with_reducible refine gate_dst (N:=12) rfl ?_);refine Kd.R_make k23 _ 23 rfl (N:=12) rfl 35 _ _ rfl (l0.length:Int) rfl rfl Try.underlying35 (.agg #[(.int .i64 0),(.int .i64 0)]) 16 info23 rfl (by decide) (by omega) z23 (ok:=fun _=>True) (okp:=fun _=>True) (k23_mkM _ _ _ z23 ) (fun _ hk=>hk) trivial (of_decide_eq_true (by first | (with_reducible assumption) | assumption)) (Nat.le_trans (Nat.mul_le_mul_right _ (of_decide_eq_true (by first | (with_reducible assumption) | assumption):(l0.length:Int).toNat ≤ 17592186044416)) (by omega)) (Below.refl _ _) (Nat.le_refl _) ?_;intro n8 w6 n9 hb hg_ hnew_;clear hg_ hnew_;(first | rw [← i8.out] at n9 | (simp only [Int.reduceToNat] at n9;rw [← i8.out] at n9));have h1:=A_ (Kd.R_lower n9 (below_size (bl HB)));replace HB:=bB HB hb;clear hb n9) | ((with_reducible refine gate_dst (N:=15) rfl ?_);refine Kd.R_make Kd.bool _ 4 rfl (N:=15) rfl 115 _ _ rfl (l0.length:Int) rfl rfl Try.underlying115 (.bool false) 1 info4 rfl (by decide) (by omega) false (ok:=fun _=>True) (okp:=fun _=>True) rfl (fun _ hk=>hk) trivial (of_decide_eq_true (by first | (with_reducible assumption) | assumption)) (Nat.le_trans (Nat.mul_le_mul_right _ (of_decide_eq_true (by first | (with_reducible assumption) | assumption):(l0.length:Int).toNat ≤ 281474976710656)) (by omega)) (Below.refl _ _) (Nat.le_refl _) ?_;intro o0 w8 o1 hb hg_ hnew_;clear hg_ hnew_;(first | rw [← i9.out] at o1 | (simp only [Int.reduceToNat] at o1;rw [← i9.out] at o1));have o2:=A_ (Kd.R_lower o1 (below_size (bl HB)));replace h1:=rB h1 hb;replace HB:=bB HB hb;clear hb o1))
 go_loopg [1,7,8] k (fun kq v1 v7 v8 w'=>∃ (b7:Int) (b5:List (S23)) (b4:List Bool) (b8:Int) (b0:Int),v1 = .int .i64 b7 ∧ v7 = .int .i64 b8 ∧ v8 = .int .i64 b0 ∧ Aside0 (numnahref07_equal.l0 kq l0 b7 b5 b4 b8 b0 = some r) ∧ Aside0 (kq ≤ k) ∧ Aside0 (Kd.R k23 23 w' w.heap.size (fun _=>True) n8 b5) ∧ Aside0 (Kd.R Kd.bool 4 w' w.heap.size (fun _=>True) o0 b4) ∧ Aside0 (Below w.heap.size w w'))
 case atStart=>exact ⟨(a1),(s3),(s4),((l0.length:Int)),(0),(by first | rfl | (simp;done) | (simp [*];done)),(by first | rfl | (simp;done) | (simp [*];done)),(by first | rfl | (simp;done) | (simp [*];done)),H',⟨Nat.le_refl _⟩,⟨by (with_reducible repeat (first | apply Kd.R_alloc | apply Kd.R_drewN | apply Kd.R_drew));exact h1.out⟩,⟨by (with_reducible repeat (first | apply Kd.R_alloc | apply Kd.R_drewN | apply Kd.R_drew));exact o2.out⟩,⟨bl HB⟩⟩
 case round =>
  clear H'
  obtain ⟨b7,b5,b4,b8,b0,rfl,rfl,rfl,HA,i6,b3,b2,HB⟩:=hrel
  cases gk with
  | zero=>exact absurd HA.out (by simp [numnahref07_equal.l0])
  | succ k1 =>
   have H:=HA.out
   clear HA
   simp only [numnahref07_equal.l0] at H
   by_cases c10:b0 < (l0.length:Int)
   case neg =>
    rw [if_neg c10] at H
    have o3:=decide_eq_false c10
    clear c10
    have H':=A_ H
    clear H
    go_wp2
    go_loopg [9] k1 (fun kq v9 w'=>∃ (b9:List (S23)) (b1:Int),v9 = .int .i64 b1 ∧ Aside0 (numnahref07_equal.l1 kq l0 b7 b9 b4 b8 b1 = some r) ∧ Aside0 (kq ≤ k1) ∧ Aside0 (Kd.R k23 23 w' w.heap.size (fun _=>True) n8 b9) ∧ Aside0 (Kd.R Kd.bool 4 w' w.heap.size (fun _=>True) o0 b4) ∧ Aside0 (Below w.heap.size w w'))
    case atStart=>exact ⟨(b5),(0),(by first | rfl | (simp;done) | (simp [*];done)),H',⟨Nat.le_refl _⟩,⟨by (with_reducible repeat (first | apply Kd.R_alloc | apply Kd.R_drewN | apply Kd.R_drew));exact b3.out⟩,⟨by (with_reducible repeat (first | apply Kd.R_alloc | apply Kd.R_drewN | apply Kd.R_drew));exact b2.out⟩,⟨bl HB⟩⟩
    case round =>
     clear H'
     obtain ⟨b9,b1,rfl,HA,s0,b3,b2,HB⟩:=hrel
     cases gk with
     | zero=>exact absurd HA.out (by simp [numnahref07_equal.l1])
     | succ k2 =>
      have H:=HA.out
      clear HA
      simp only [numnahref07_equal.l1] at H
      by_cases n6:b1 < (l0.length:Int)
      case neg =>
       rw [if_neg n6] at H
       have o4:=decide_eq_false n6
       clear n6
       obtain rfl:=Option.some.inj H
       go_wp2
       go_ret
       exact ⟨_,by first | rfl | (simp [errW_none,errW_some] <;> rfl) | (simp [*,errW_none,errW_some] <;> rfl),by (with_reducible repeat (first | apply Kd.R_alloc | apply Kd.R_drewN | apply Kd.R_drew));exact b3.out,bl HB⟩
      rw [if_pos n6] at H
      have o4:=decide_eq_true n6
      clear n6
      replace H:=gd H
      obtain ⟨A2,H⟩:=H
      have A3:=decide_eq_true A2
      clear A2
      replace H:=gd H
      obtain ⟨A4,H⟩:=H
      have A5:=decide_eq_true A4
      clear A4
      obtain ⟨o5,h2⟩:∃ b_:Bool,b_ = (rdOf false b4 b1):=⟨_,rfl⟩
      replace H:(if o5 = true then (numnahref07_equal.l1 k2 l0 b7 b9 b4 b8 (wrap64 (b1 + 1))) else ((numnahref07_Reduced.f k2 b7 b8).bind fun d8=>(if b1 < (b9.length:Int) then (numnahref07_equal.l1 k2 l0 b7 (b9.set (b1:Int).toNat (⟨d8.1,d8.2⟩:S23)) b4 b8 (wrap64 (b1 + 1))) else (none)))) = some r:=by rw [← h2] at H;exact H
      have j5:=A_ h2
      clear h2
      by_cases s1:o5 = true
      ·subst s1
       rw [if_pos rfl] at H
       have H':=A_ H
       clear H
       obtain ⟨D0,D1,s5⟩:=Kd.R_slice b2.out
       subst s5
       have d9:0 ≤ (b1:Int):=of_decide_eq_true (by first | (with_reducible assumption) | assumption)
       have e0:b1 < (b4.length:Int):=of_decide_eq_true (by first | (with_reducible assumption) | assumption)
       obtain ⟨o6,l5,d4⟩:=Kd.at_bool (Kd.R_reads' b2.out).2.2 b1 d9 e0
       (try rw [← j5.out] at d4)
       cases l5
       replace d9:=eq_true d9
       replace e0:=eq_true e0
       go_wp2
       go_roundg k2
       case measure=>have:=i6.out;have:=s0.out;omega
       case rel=>exact ⟨(b9),(wrap64 (b1 + 1)),(by first | rfl | (simp;done) | (simp [*];done)),H',⟨by have:=i6.out;have:=s0.out;omega⟩,⟨by (with_reducible repeat (first | apply Kd.R_alloc | apply Kd.R_drewN | apply Kd.R_drew));exact b3.out⟩,⟨by (with_reducible repeat (first | apply Kd.R_alloc | apply Kd.R_drewN | apply Kd.R_drew));exact b2.out⟩,⟨bl HB⟩⟩
      replace s1:=Bool.eq_false_iff.mpr s1
      subst s1
      rw [if_neg (show ¬ (false = true) by decide)] at H
      replace H:=Option.bind_eq_some_iff.mp H
      obtain ⟨⟨e5,e6⟩,A340,H⟩:=H
      dsimp only at H
      have D2:=A_ A340
      clear A340
      replace H:=gd H
      obtain ⟨A6,H⟩:=H
      have A7:=decide_eq_true A6
      clear A6
      obtain ⟨o7,h3⟩:∃ y_:List (S23),y_ = (b9.set (b1:Int).toNat (⟨e5,e6⟩:S23)):=⟨_,rfl⟩
      rw [← h3] at H
      have o8:=A_ h3
      clear h3
      have H':=A_ H
      clear H
      obtain ⟨D3,D4,s6⟩:=Kd.R_slice b2.out
      subst s6
      have d9:0 ≤ (b1:Int):=of_decide_eq_true (by first | (with_reducible assumption) | assumption)
      have e0:b1 < (b4.length:Int):=of_decide_eq_true (by first | (with_reducible assumption) | assumption)
      obtain ⟨o6,l5,d4⟩:=Kd.at_bool (Kd.R_reads' b2.out).2.2 b1 d9 e0
      (try rw [← j5.out] at d4)
      cases l5
      replace d9:=eq_true d9
      replace e0:=eq_true e0
      go_wp2_with (first | ((with_reducible refine gate_callee (f:=34) rfl ?_);refine gL (some 72) Try.func34 #[.int .i64 b7,.int .i64 b8] ?_;(with_reducible refine (numnahref07_Reduced.calls k2 b7 b8 e5 e6 _ D2.out).mono ?_);rintro e l6 ⟨rfl,hb⟩;refine ⟨_,rfl,?_⟩;replace b3:=rB b3 hb;replace b2:=rB b2 hb;replace HB:=bB HB hb;(try clear hb);have s7:0 ≤ (b1:Int):=of_decide_eq_true (by first | (with_reducible assumption) | assumption);have s8:(b1:Int) < ((b9.length:Int):Int):=of_decide_eq_true (by first | (with_reducible assumption) | assumption);obtain ⟨d2,l7,o9,p0,s9,D5,p1⟩:=Kd.R_form b3.out (by omega);(first | cases o9 | (injection o9 with ea_ en_ ec_;(first | subst ea_ | (injection ea_ with ea_;subst ea_));subst ec_;clear en_));have p2:=A_ p0;have D6:=A_ p1;clear p0 s9 p1;obtain ⟨D7,p3,p4,h4,h5⟩:=Kd.R_elem b3.out z23 (b1:Int) s7 s8;obtain rfl:=k23_openM p4;have t0:l6.cell? ⟨d2,(b1:Int).toNat * 2,none⟩ = some (.int .i64 ((rd_T23 b9 b1).f0)):=h4 0 _ rfl;have t1:l6.cell? ⟨d2,(b1:Int).toNat * 2 + 1,none⟩ = some (.int .i64 ((rd_T23 b9 b1).f1)):=h4 1 _ rfl;have t2:l6.frozen? ⟨d2,(b1:Int).toNat * 2,none⟩ = false:=h5 0;have t3:l6.frozen? ⟨d2,(b1:Int).toNat * 2 + 1,none⟩ = false:=h5 1;clear p3 h4 h5 p4;replace s7:=eq_true s7;replace s8:=eq_true s8;have p5:=A_ (show Kd.R k23 23 l6 w.heap.size (fun _=>True) (.slice (some ⟨d2,0,none⟩) b9.length l7) b9 from (rs b3));obtain ⟨D8,j7,p6,e3,h6⟩:=Kd.R_elem p5.out z23 (b1:Int) (of_decide_eq_true (by first | (with_reducible assumption) | assumption)) (by have h_:(b1:Int) < ((b9.length:Int):Int):=of_decide_eq_true (by first | (with_reducible assumption) | assumption);first | exact h_ | (have e_:=(Kd.R_reads' b3.out).1;omega) | simpa using h_);obtain rfl:=k23_openM p6;have l8:=Kd.R_seg p5.out (b1:Int) (of_decide_eq_true (by first | (with_reducible assumption) | assumption)) (by have h_:(b1:Int) < ((b9.length:Int):Int):=of_decide_eq_true (by first | (with_reducible assumption) | assumption);first | exact h_ | (have e_:=(Kd.R_reads' b3.out).1;omega) | simpa using h_) (seg:=[.int .i64 e5,.int .i64 e6]) (j:=0) j7 e3 (show 2 ≤ 2 from by decide) (x':=(⟨e5,e6⟩:S23)) (k23_mkM _ _ _ (⟨e5,e6⟩:S23) ) (fun _ hk=>hk);have l9:=e3 0 _ rfl;(try simp only [show (k23).sz = 2 from rfl,Nat.mul_one,Nat.add_zero] at l9);have m0:=h6 0;(try simp only [show (k23).sz = 2 from rfl,Nat.mul_one,Nat.add_zero] at m0);have m1:=e3 1 _ rfl;(try simp only [show (k23).sz = 2 from rfl,Nat.mul_one,Nat.add_zero] at m1);have m2:=h6 1;(try simp only [show (k23).sz = 2 from rfl,Nat.mul_one,Nat.add_zero] at m2);clear j7 e3 h6 p6) | ((with_reducible refine gate_store (t:=23) (p:=73) rfl ?_);refine store_event (t:=23) (p:=73) (v:=?vo_w40) (w1:=((l6.setCell ⟨d2,(b1:Int).toNat * 2,none⟩ (.int .i64 e5)).setCell ⟨d2,(b1:Int).toNat * 2 + 1,none⟩ (.int .i64 e6))) ?hg ?ho ?hn ?hr ?_;(case ho=>rfl);(case hg=>rfl);(case hn=>rfl);(case hr=>first | (go_simp;done) | (go_simp;rfl));intro t4 hw;have hg:l6.grownBy t4 (some d2):=(by rw [hw];exact l8.2);have hp_:Kd.R k23 23 t4 w.heap.size (fun _=>True) (.slice (some ⟨d2,0,none⟩) b9.length l7) o7:=(by rw [hw,o8.out];exact l8.1);clear l8;replace b2:=A_ (Kd.R_over' (v:=(.slice (some ⟨d2,0,none⟩) b9.length l7)) (rs b2) (Kd.R_typed b3.out) (by decide) hg);replace b3:=A_ hp_;replace HB:=A_ ((by rw [hw];exact below_set (below_set (HB.out) p2.out) p2.out:Below w.heap.size w t4));clear hg hw hp_))
      go_roundg k2
      case measure=>have:=i6.out;have:=s0.out;omega
      case rel=>exact ⟨(o7),(wrap64 (b1 + 1)),(by first | rfl | (simp;done) | (simp [*];done)),H',⟨by have:=i6.out;have:=s0.out;omega⟩,⟨by (with_reducible repeat (first | apply Kd.R_alloc | apply Kd.R_drewN | apply Kd.R_drew));exact b3.out⟩,⟨by (with_reducible repeat (first | apply Kd.R_alloc | apply Kd.R_drewN | apply Kd.R_drew));exact b2.out⟩,⟨bl HB⟩⟩
   rw [if_pos c10] at H
   have o3:=decide_eq_true c10
   clear c10
   replace H:=gd H
   obtain ⟨A8,H⟩:=H
   have A9:=decide_eq_true A8
   clear A8
   replace H:=gd H
   obtain ⟨B0,H⟩:=H
   have C0:=decide_eq_true B0
   clear B0
   obtain ⟨p7,h7⟩:∃ b_:Bool,b_ = (rdOf false b4 b0):=⟨_,rfl⟩
   replace H:(if p7 = true then (numnahref07_equal.l0 k1 l0 b7 b5 b4 b8 (wrap64 (b0 + 1))) else (if (wrap64 ((rd l0 b0) * b8)) > b7 then (numnahref07_equal.l0 k1 l0 b7 b5 b4 b8 (wrap64 (b0 + 1))) else ((numnahref07_Whole.f (rd l0 b0)).bind fun d7=>(if b0 < (b5.length:Int) then (numnahref07_equal.l0 k1 l0 (wrap64 (b7 - (rd l0 b0))) (b5.set (b0:Int).toNat (⟨d7.1,d7.2⟩:S23)) (b4.set (b0:Int).toNat true) (wrap64 (b8 - 1)) 0) else (none))))) = some r:=by rw [← h7] at H;exact H
   have h8:=A_ h7
   clear h7
   by_cases s2:p7 = true
   ·subst s2
    rw [if_pos rfl] at H
    have H':=A_ H
    clear H
    obtain ⟨D9,E0,t5⟩:=Kd.R_slice b2.out
    subst t5
    have d0:0 ≤ (b0:Int):=of_decide_eq_true (by first | (with_reducible assumption) | assumption)
    have d1:b0 < (b4.length:Int):=of_decide_eq_true (by first | (with_reducible assumption) | assumption)
    obtain ⟨j8,h9,c1⟩:=Kd.at_bool (Kd.R_reads' b2.out).2.2 b0 d0 d1
    (try rw [← h8.out] at c1)
    cases h9
    replace d0:=eq_true d0
    replace d1:=eq_true d1
    go_wp2
    go_roundg k1
    case measure=>have:=i6.out;omega
    case rel=>exact ⟨(b7),(b5),(b4),(b8),(wrap64 (b0 + 1)),(by first | rfl | (simp;done) | (simp [*];done)),(by first | rfl | (simp;done) | (simp [*];done)),(by first | rfl | (simp;done) | (simp [*];done)),H',⟨by have:=i6.out;omega⟩,⟨by (with_reducible repeat (first | apply Kd.R_alloc | apply Kd.R_drewN | apply Kd.R_drew));exact b3.out⟩,⟨by (with_reducible repeat (first | apply Kd.R_alloc | apply Kd.R_drewN | apply Kd.R_drew));exact b2.out⟩,⟨bl HB⟩⟩
   replace s2:=Bool.eq_false_iff.mpr s2
   subst s2
   rw [if_neg (show ¬ (false = true) by decide)] at H
   by_cases n7:(wrap64 ((rd l0 b0) * b8)) > b7
   ·rw [if_pos n7] at H
    have p8:=decide_eq_true n7
    clear n7
    have H':=A_ H
    clear H
    obtain ⟨E1,E2,t6⟩:=Kd.R_slice b2.out
    subst t6
    have d0:0 ≤ (b0:Int):=of_decide_eq_true (by first | (with_reducible assumption) | assumption)
    have d1:b0 < (b4.length:Int):=of_decide_eq_true (by first | (with_reducible assumption) | assumption)
    obtain ⟨j8,h9,c1⟩:=Kd.at_bool (Kd.R_reads' b2.out).2.2 b0 d0 d1
    (try rw [← h8.out] at c1)
    cases h9
    replace d0:=eq_true d0
    replace d1:=eq_true d1
    have e1:0 ≤ (b0:Int):=of_decide_eq_true (by first | (with_reducible assumption) | assumption)
    have e2:b0 < (l0.length:Int):=of_decide_eq_true (by first | (with_reducible assumption) | assumption)
    obtain ⟨i0,m3,b6⟩:=Kd.at_int r9.out b0 e1 e2
    cases m3
    replace b6:=(HB.out.cell (World.block_lt_of_cell? w _ b6)).trans b6
    replace e1:=eq_true e1
    replace e2:=eq_true e2
    go_wp2
    go_roundg k1
    case measure=>have:=i6.out;omega
    case rel=>exact ⟨(b7),(b5),(b4),(b8),(wrap64 (b0 + 1)),(by first | rfl | (simp;done) | (simp [*];done)),(by first | rfl | (simp;done) | (simp [*];done)),(by first | rfl | (simp;done) | (simp [*];done)),H',⟨by have:=i6.out;omega⟩,⟨by (with_reducible repeat (first | apply Kd.R_alloc | apply Kd.R_drewN | apply Kd.R_drew));exact b3.out⟩,⟨by (with_reducible repeat (first | apply Kd.R_alloc | apply Kd.R_drewN | apply Kd.R_drew));exact b2.out⟩,⟨bl HB⟩⟩
   rw [if_neg n7] at H
   have p8:=decide_eq_false n7
   clear n7
   obtain ⟨p9,i1⟩:∃ y_:List Bool,y_ = (b4.set (b0:Int).toNat true):=⟨_,rfl⟩
   rw [← i1] at H
   have q0:=A_ i1
   clear i1
   replace H:=Option.bind_eq_some_iff.mp H
   obtain ⟨⟨e7,e8⟩,A190,H⟩:=H
   dsimp only at H
   have E3:=A_ A190
   clear A190
   replace H:=gd H
   obtain ⟨C1,H⟩:=H
   have C2:=decide_eq_true C1
   clear C1
   obtain ⟨q1,i2⟩:∃ y_:List (S23),y_ = (b5.set (b0:Int).toNat (⟨e7,e8⟩:S23)):=⟨_,rfl⟩
   rw [← i2] at H
   have q2:=A_ i2
   clear i2
   have H':=A_ H
   clear H
   obtain ⟨E4,q3,t7⟩:=Kd.R_slice b2.out
   subst t7
   have d0:0 ≤ (b0:Int):=of_decide_eq_true (by first | (with_reducible assumption) | assumption)
   have d1:b0 < (b4.length:Int):=of_decide_eq_true (by first | (with_reducible assumption) | assumption)
   obtain ⟨j8,h9,c1⟩:=Kd.at_bool (Kd.R_reads' b2.out).2.2 b0 d0 d1
   (try rw [← h8.out] at c1)
   cases h9
   replace d0:=eq_true d0
   replace d1:=eq_true d1
   have e1:0 ≤ (b0:Int):=of_decide_eq_true (by first | (with_reducible assumption) | assumption)
   have e2:b0 < (l0.length:Int):=of_decide_eq_true (by first | (with_reducible assumption) | assumption)
   obtain ⟨i0,m3,b6⟩:=Kd.at_int r9.out b0 e1 e2
   cases m3
   replace b6:=(HB.out.cell (World.block_lt_of_cell? w _ b6)).trans b6
   replace e1:=eq_true e1
   replace e2:=eq_true e2
   have t8:0 ≤ (b0:Int):=of_decide_eq_true (by first | (with_reducible assumption) | assumption)
   have t9:(b0:Int) < ((b4.length:Int):Int):=of_decide_eq_true (by first | (with_reducible assumption) | assumption)
   obtain ⟨i7,E5,q4,q5,x2,E6,q6⟩:=Kd.R_form b2.out (by omega)
   (first | cases q4 | (injection q4 with ea_ en_ ec_;(first | subst ea_ | (injection ea_ with ea_;subst ea_));subst ec_;clear en_))
   have x3:=A_ q5
   have E7:=A_ q6
   clear q5 x2 q6
   (first | simp only [add_plain] at c1 | skip)
   obtain ⟨x4,y6⟩:=Kd.R_celln false b2.out (b0:Int) t8 t9
   replace t8:=eq_true t8
   replace t9:=eq_true t9
   have m4:=Kd.R_putg b2.out (b0:Int) true
   go_wp2_with (first | ((with_reducible refine gate_store (t:=4) (p:=40) rfl ?_);refine store_event (t:=4) (p:=40) (v:=?vo_w24) (w1:=(wr.setCell ⟨i7,(b0:Int).toNat,none⟩ (.bool true))) ?hg ?ho ?hn ?hr ?_;(case ho=>rfl);(case hg=>rfl);(case hn=>rfl);(case hr=>first | (go_simp;done) | (go_simp;rfl));intro y7 hw;have hg:wr.grownBy y7 (some i7):=(by rw [hw];exact m4.2);have hp_:Kd.R Kd.bool 4 y7 w.heap.size (fun _=>True) (.slice (some ⟨i7,0,none⟩) b4.length q3) p9:=(by rw [hw,q0.out];exact m4.1);clear m4;replace b3:=A_ (Kd.R_over' (v:=(.slice (some ⟨i7,0,none⟩) b4.length q3)) (rs b3) (Kd.R_typed b2.out) (by decide) hg);replace b2:=A_ hp_;replace HB:=A_ ((by rw [hw];exact below_set (HB.out) x3.out:Below w.heap.size w y7));clear hg hw hp_;have m5:0 ≤ (b0:Int):=of_decide_eq_true (by first | (with_reducible assumption) | assumption);have m6:b0 < (l0.length:Int):=of_decide_eq_true (by first | (with_reducible assumption) | assumption);obtain ⟨q7,y8,d5⟩:=Kd.at_int r9.out b0 m5 m6;obtain rfl:i0 = q7:=(by injection y8);replace d5:=(HB.out.cell (World.block_lt_of_cell? w _ d5)).trans d5;replace m5:=eq_true m5;replace m6:=eq_true m6) | ((with_reducible refine gate_callee (f:=23) rfl ?_);refine gL (some 47) Try.func23 #[.int .i64 (rd l0 b0)] ?_;(with_reducible refine (numnahref07_Whole.calls (rd l0 b0) e7 e8 _ E3.out).mono ?_);rintro e m7 ⟨rfl,hb⟩;refine ⟨_,rfl,?_⟩;replace b3:=rB b3 hb;replace b2:=rB b2 hb;replace HB:=bB HB hb;(try clear hb);have y9:0 ≤ (b0:Int):=of_decide_eq_true (by first | (with_reducible assumption) | assumption);have z0:(b0:Int) < ((b5.length:Int):Int):=of_decide_eq_true (by first | (with_reducible assumption) | assumption);obtain ⟨d3,m8,q8,q9,z1,E8,r0⟩:=Kd.R_form b3.out (by omega);(first | cases q8 | (injection q8 with ea_ en_ ec_;(first | subst ea_ | (injection ea_ with ea_;subst ea_));subst ec_;clear en_));have r1:=A_ q9;have E9:=A_ r0;clear q9 z1 r0;obtain ⟨F0,r2,r3,i3,i4⟩:=Kd.R_elem b3.out z23 (b0:Int) y9 z0;obtain rfl:=k23_openM r3;have z2:m7.cell? ⟨d3,(b0:Int).toNat * 2,none⟩ = some (.int .i64 ((rd_T23 b5 b0).f0)):=i3 0 _ rfl;have z3:m7.cell? ⟨d3,(b0:Int).toNat * 2 + 1,none⟩ = some (.int .i64 ((rd_T23 b5 b0).f1)):=i3 1 _ rfl;have z4:m7.frozen? ⟨d3,(b0:Int).toNat * 2,none⟩ = false:=i4 0;have z5:m7.frozen? ⟨d3,(b0:Int).toNat * 2 + 1,none⟩ = false:=i4 1;clear r2 i3 i4 r3;replace y9:=eq_true y9;replace z0:=eq_true z0;have r4:=A_ (show Kd.R k23 23 m7 w.heap.size (fun _=>True) (.slice (some ⟨d3,0,none⟩) b5.length m8) b5 from (rs b3));obtain ⟨F1,j9,r5,e4,i5⟩:=Kd.R_elem r4.out z23 (b0:Int) (of_decide_eq_true (by first | (with_reducible assumption) | assumption)) (by have h_:(b0:Int) < ((b5.length:Int):Int):=of_decide_eq_true (by first | (with_reducible assumption) | assumption);first | exact h_ | (have e_:=(Kd.R_reads' b3.out).1;omega) | simpa using h_);obtain rfl:=k23_openM r5;have m9:=Kd.R_seg r4.out (b0:Int) (of_decide_eq_true (by first | (with_reducible assumption) | assumption)) (by have h_:(b0:Int) < ((b5.length:Int):Int):=of_decide_eq_true (by first | (with_reducible assumption) | assumption);first | exact h_ | (have e_:=(Kd.R_reads' b3.out).1;omega) | simpa using h_) (seg:=[.int .i64 e7,.int .i64 e8]) (j:=0) j9 e4 (show 2 ≤ 2 from by decide) (x':=(⟨e7,e8⟩:S23)) (k23_mkM _ _ _ (⟨e7,e8⟩:S23) ) (fun _ hk=>hk);have n0:=e4 0 _ rfl;(try simp only [show (k23).sz = 2 from rfl,Nat.mul_one,Nat.add_zero] at n0);have n1:=i5 0;(try simp only [show (k23).sz = 2 from rfl,Nat.mul_one,Nat.add_zero] at n1);have n2:=e4 1 _ rfl;(try simp only [show (k23).sz = 2 from rfl,Nat.mul_one,Nat.add_zero] at n2);have n3:=i5 1;(try simp only [show (k23).sz = 2 from rfl,Nat.mul_one,Nat.add_zero] at n3);clear j9 e4 i5 r5) | ((with_reducible refine gate_store (t:=23) (p:=48) rfl ?_);refine store_event (t:=23) (p:=48) (v:=?vo_w27) (w1:=((m7.setCell ⟨d3,(b0:Int).toNat * 2,none⟩ (.int .i64 e7)).setCell ⟨d3,(b0:Int).toNat * 2 + 1,none⟩ (.int .i64 e8))) ?hg ?ho ?hn ?hr ?_;(case ho=>rfl);(case hg=>rfl);(case hn=>rfl);(case hr=>first | (go_simp;done) | (go_simp;rfl));intro z6 hw;have hg:m7.grownBy z6 (some d3):=(by rw [hw];exact m9.2);have hp_:Kd.R k23 23 z6 w.heap.size (fun _=>True) (.slice (some ⟨d3,0,none⟩) b5.length m8) q1:=(by rw [hw,q2.out];exact m9.1);clear m9;replace b2:=A_ (Kd.R_over' (v:=(.slice (some ⟨d3,0,none⟩) b5.length m8)) (rs b2) (Kd.R_typed b3.out) (by decide) hg);replace b3:=A_ hp_;replace HB:=A_ ((by rw [hw];exact below_set (below_set (HB.out) r1.out) r1.out:Below w.heap.size w z6));clear hg hw hp_;have n4:0 ≤ (b0:Int):=of_decide_eq_true (by first | (with_reducible assumption) | assumption);have n5:b0 < (l0.length:Int):=of_decide_eq_true (by first | (with_reducible assumption) | assumption);obtain ⟨r6,z7,d6⟩:=Kd.at_int r9.out b0 n4 n5;obtain rfl:i0 = r6:=(by injection z7);replace d6:=(HB.out.cell (World.block_lt_of_cell? w _ d6)).trans d6;replace n4:=eq_true n4;replace n5:=eq_true n5))
   go_roundg k1
   case measure=>have:=i6.out;omega
   case rel=>exact ⟨(wrap64 (b7 - (rd l0 b0))),(q1),(p9),(wrap64 (b8 - 1)),(0),(by first | rfl | (simp;done) | (simp [*];done)),(by first | rfl | (simp;done) | (simp [*];done)),(by first | rfl | (simp;done) | (simp [*];done)),H',⟨by have:=i6.out;omega⟩,⟨by (with_reducible repeat (first | apply Kd.R_alloc | apply Kd.R_drewN | apply Kd.R_drew));exact b3.out⟩,⟨by (with_reducible repeat (first | apply Kd.R_alloc | apply Kd.R_drewN | apply Kd.R_drew));exact b2.out⟩,⟨bl HB⟩⟩
end Go.Proofs.Ytjohcjfmlhihbaa.G
namespace Go.Proofs.Ytjohcjfmlhihbaa.P
open Go Go.RowKit Go.Proofs.Ytjohcjfmlhihbaa.G
open Go.Proofs.YtjohcjfmlhihbaaW.PrintWords Go.Proofs.YtjohcjfmlhihbaaW.PrintMore
theorem S_single {m j:Nat} (hj:j < m) (r:Rat):S m (fun u=>if u = j then r else 0) = r:=by
 induction m with
 | zero=>omega
 | succ m ih =>
  unfold S
  rw [List.range_succ,List.map_append,tot_append]
  by_cases h:j = m
  ·subst h
   have:tot ((List.range j).map fun u=>if u = j then r else 0) = 0:=S_zero (m:=j) (fun u hu=>by rw [if_neg (by omega)])
   rw [this]
   simp only [List.map_cons,List.map_nil,tot_cons,tot_nil,if_true]
   grind
  ·have:=ih (by omega)
   unfold S at this
   rw [this]
   simp only [List.map_cons,List.map_nil,tot_cons,tot_nil]
   rw [if_neg (fun e=>h e.symm)]
   grind
theorem S_update {m j:Nat} (hj:j < m) {f g:Nat → Rat} (h:∀ u,u < m → u ≠ j → g u = f u):S m g = S m f + (g j - f j):=by
 have e:S m (fun u=>g u - f u) = S m (fun u=>if u = j then g j - f j else 0):=S_congr fun u hu=>by
  by_cases hu2:u = j
  ·subst hu2;rw [if_pos rfl]
  ·rw [if_neg hu2,h u hu hu2];grind
 rw [S_sub,S_single hj] at e
 grind
theorem S_ge {m j:Nat} (hj:j < m) {f:Nat → Rat} (h:∀ u,u < m → 0 ≤ f u):f j ≤ S m f:=by
 have:=S_le (f:=fun u=>if u = j then f j else 0) (g:=f) (m:=m) (fun u hu=>by
  by_cases e:u = j
  ·subst e;rw [if_pos rfl];exact Rat.le_refl
  ·rw [if_neg e];exact h u hu)
 rwa [S_single hj] at this
theorem tot_S (l:List Rat):tot l = S l.length (fun i=>l.getD i 0):=by
 unfold S
 congr 1
 refine List.ext_getElem (by simp) fun i h1 h2=>?_
 simp [h1]
structure Rq (l:List Int) (E e:Int) (done:List Bool) (left:Nat) (out:List S23):Prop where
 dl:done.length = l.length
 ol:out.length = l.length
 cnt:(left:Rat) = S l.length (fun i=>if done.getD i false then 0 else 1)
 est:(e:Rat) = (E:Rat) - S l.length (fun i=>if done.getD i false then ((l.getD i 0:Int):Rat) else 0)
 e0:0 ≤ e
 eb:e ≤ 20000
 lb:left ≤ 10
 ok:∀ i,i < l.length → done.getD i false = true → l.getD i 0 * (left:Int) ≤ e ∧ out.getD i z23 = encQ ((l.getD i 0:Int):Rat)
section
variable {l:List Int} (h:IsCl l) {E:Int}
include h
omit h in
theorem Rq.left_pos {e:Int} {done:List Bool} {left:Nat} {out:List S23} (s:Rq l E e done left out) {j:Nat} (hj:j < l.length) (hd:done.getD j false = false):0 < left:=by
 have h1:=S_ge hj (f:=fun i=>if done.getD i false then 0 else 1) (fun u _=>by split <;> grind)
 rw [← s.cnt,hd] at h1
 simp only [Bool.false_eq_true,if_false] at h1
 apply Classical.byContradiction
 intro h0
 have:left = 0:=by omega
 subst this
 have e:((0:Nat):Rat) = 0:=rfl
 rw [e] at h1
 grind
theorem Rq.next {e:Int} {done:List Bool} {left:Nat} {out:List S23} (s:Rq l E e done (left + 1) out) {j:Nat} (hj:j < l.length) (hd:done.getD j false = false) (hc:l.getD j 0 * ((left + 1:Nat):Int) ≤ e) :
  Rq l E (e - l.getD j 0) (done.set j true) left (out.set j (encQ ((l.getD j 0:Int):Rat))):=by
 have hg:l.getD j 0 = l[j]:=by simp [hj]
 have hm:=h.mem _ (List.getElem_mem hj)
 rw [← hg] at hm
 have gd:∀ u,(done.set j true).getD u false = if u = j then true else done.getD u false:=by
  intro u
  simp only [List.getD_eq_getElem?_getD,List.getElem?_set]
  by_cases e1:u = j
  ·subst e1;simp [s.dl,hj]
  ·rw [if_neg (fun e=>e1 e.symm),if_neg e1]
 have go:∀ u,(out.set j (encQ ((l.getD j 0:Int):Rat))).getD u z23 = if u = j then encQ ((l.getD j 0:Int):Rat) else out.getD u z23:=by
  intro u
  simp only [List.getD_eq_getElem?_getD,List.getElem?_set]
  by_cases e1:u = j
  ·subst e1;simp [s.ol,hj]
  ·rw [if_neg (fun e=>e1 e.symm),if_neg e1]
 have hc2:l.getD j 0 * (left:Int) + l.getD j 0 ≤ e:=by
  have:l.getD j 0 * ((left + 1:Nat):Int) = l.getD j 0 * (left:Int) + l.getD j 0:=by push_cast;rw [Int.mul_add,Int.mul_one]
  omega
 have hpos:0 ≤ l.getD j 0 * (left:Int):=Int.mul_nonneg hm.1 (by omega)
 refine ⟨by rw [List.length_set];exact s.dl,by rw [List.length_set];exact s.ol,?_,?_,by omega,by have:=s.eb;omega,by have:=s.lb;omega,fun i hi hid=>?_⟩
 ·have hu:=S_update hj (f:=fun i=>if done.getD i false then (0:Rat) else 1) (g:=fun i=>if (done.set j true).getD i false then 0 else 1) (fun u _ hu=>by simp only [gd,if_neg hu])
  rw [hu,← s.cnt]
  simp only [gd,if_true,hd,Bool.false_eq_true,if_false]
  push_cast;grind
 ·have hu:=S_update hj (f:=fun i=>if done.getD i false then ((l.getD i 0:Int):Rat) else 0) (g:=fun i=>if (done.set j true).getD i false then ((l.getD i 0:Int):Rat) else 0) (fun u _ hu=>by simp only [gd,if_neg hu])
  rw [hu]
  simp only [gd,if_true,hd,Bool.false_eq_true,if_false]
  have:=s.est
  push_cast
  grind
 ·rw [gd] at hid
  rw [go]
  by_cases e1:i = j
  ·subst e1
   rw [if_pos rfl]
   exact ⟨by omega,rfl⟩
  ·rw [if_neg e1] at hid ⊢
   obtain ⟨k1,k2⟩:=s.ok i hi hid
   refine ⟨?_,k2⟩
   have hi2:l.getD i 0 * ((left + 1:Nat):Int) = l.getD i 0 * (left:Int) + l.getD i 0:=by push_cast;rw [Int.mul_add,Int.mul_one]
   rw [hi2] at k1
   have a1:(l.getD i 0 * (left:Int) + l.getD i 0) * (left:Int) ≤ e * (left:Int):=Int.mul_le_mul_of_nonneg_right k1 (by omega)
   by_cases hl0:left = 0
   ·subst hl0
    have:l.getD i 0 * ((0:Nat):Int) = 0:=by simp
    omega
   ·-- (left + 1) * (c_i * left) ≤ e * left ≤ (left + 1) * (e - c_j)
    have a2:e * (left:Int) ≤ ((left:Int) + 1) * (e - l.getD j 0):=by
     have:((left:Int) + 1) * (e - l.getD j 0) = e * (left:Int) + e - (l.getD j 0 * (left:Int) + l.getD j 0):=by grind
     omega
    have a3:(l.getD i 0 * (left:Int) + l.getD i 0) * (left:Int) = ((left:Int) + 1) * (l.getD i 0 * (left:Int)):=by grind
    rw [a3] at a1
    exact Int.le_of_mul_le_mul_left (Int.le_trans a1 a2) (by omega)
theorem requal_l1 {e:Int} {done:List Bool} {left:Nat} (hdl:done.length = l.length) (he0:0 ≤ e) (heb:e ≤ 20000) (hlb:left ≤ 10) (hlp:∀ j,j < l.length → done.getD j false = false → 0 < left) (x:List Rat) (hx:x.length = l.length) (hxn:∀ j,j < l.length → done.getD j false = false → x.getD j 0 = (e:Rat) / (left:Rat)) :
  ∀ (d i:Nat) (out:List S23),i + d = l.length → out.length = l.length → (∀ j,j < l.length → (j < i ∨ done.getD j false = true) → out.getD j z23 = encQ (x.getD j 0)) → Ev (fun k=>numnahref07_equal.l1 k l e out done (left:Int) (i:Int)) (encL x):=by
 intro d
 have hl:=h.ten
 induction d with
 | zero =>
  intro i out hi ho hok
  have:out = encL x:=by
   refine List.ext_getElem (by rw [ho,encL_length,hx]) fun j h1 h2=>?_
   have:=hok j (by omega) (.inl (by omega))
   rw [encL_get (by rw [hx];omega)]
   simpa [h1,show j < x.length by omega] using this
  rw [this]
  refine Ev.step (f:=fun _=>some (encL x)) (fun k=>?_) (Ev.now _)
  rw [numnahref07_equal.l1,if_neg (by omega)]
 | succ d ih =>
  intro i out hi ho hok
  have hil:i < l.length:=by omega
  have hb:rdOf false done (i:Int) = done.getD i false:=by unfold rdOf;rw [Int.toNat_natCast]
  cases hd:done.getD i false with
  | true =>
   refine Ev.step (fun k=>?_) (ih (i + 1) out (by omega) ho (fun j hj hjj=>hok j hj (by rcases hjj with hjj | hjj;(by_cases e:j = i;(subst e;exact .inr hd);exact .inl (by omega));exact .inr hjj)))
   rw [numnahref07_equal.l1,if_pos (by omega),if_pos (by omega),if_pos (by omega),hb,hd,if_pos rfl,wrap_succ (by omega)]
  | false =>
   have hlpos:=hlp i hil hd
   obtain ⟨K1,e1⟩:=ev_frac e left hlpos (by omega) (by omega)
   have hxi:=hxn i hil hd
   obtain ⟨K2,e2⟩:=ih (i + 1) (out.set i (encQ (x.getD i 0))) (by omega) (by rw [List.length_set];exact ho) (fun j hj hjj=>by
    simp only [List.getD_eq_getElem?_getD,List.getElem?_set]
    by_cases e:i = j
    ·subst e;simp [ho,hil]
    ·rw [if_neg e]
     have:=hok j hj (by rcases hjj with hjj | hjj;exact .inl (by omega);exact .inr hjj)
     simpa only [List.getD_eq_getElem?_getD] using this)
   refine ⟨K1 + K2 + 1,fun k hk=>?_⟩
   obtain ⟨m,rfl⟩:∃ m,k = m + 1:=⟨k - 1,by omega⟩
   have f1:=e1 m (by omega)
   have f2:=e2 m (by omega)
   have e:(⟨(mkRat e left).num,((mkRat e left).den:Int)⟩:S23) = encQ (x.getD i 0):=by rw [hxi,mk_frac];rfl
   show numnahref07_equal.l1 (m + 1) _ _ _ _ _ _ = _
   rw [numnahref07_equal.l1,if_pos (by omega),if_pos (by omega),if_pos (by omega),hb,hd,if_neg (by decide),ref_reduced]
   simp only [f1,Option.bind_some]
   rw [if_pos (by omega),Int.toNat_natCast,e,wrap_succ (by omega)]
   exact f2
theorem requal_exit (hE:E ≤ sI l) {left:Nat} {e:Int} {done:List Bool} {out:List S23} (s:Rq l E e done left out) (hn:∀ j,j < l.length → done.getD j false = false → e < l.getD j 0 * (left:Int)) :
  ∃ x,IsEq (cl l) (E:Rat) x ∧ Ev (fun k=>numnahref07_equal.l1 k l e out done (left:Int) 0) (encL x):=by
 have hl:=h.ten
 have hgd:∀ j,j < l.length → (cl l).getD j 0 = ((l.getD j 0:Int):Rat):=fun j hj=>by
  have:j < (cl l).length:=by rw [cl_length];exact hj
  simp only [List.getD_eq_getElem?_getD,List.getElem?_eq_getElem this,List.getElem?_eq_getElem hj,Option.getD_some]
  exact cl_get hj
 have key:∀ L:Rat,(∀ j,j < l.length → done.getD j false = true → ((l.getD j 0:Int):Rat) ≤ L) → (∀ j,j < l.length → done.getD j false = false → L < ((l.getD j 0:Int):Rat) ∧ 0 < left ∧ L = (e:Rat) / (left:Rat)) → (left:Rat) * L = (e:Rat) →
   ∃ x,IsEq (cl l) (E:Rat) x ∧ Ev (fun k=>numnahref07_equal.l1 k l e out done (left:Int) 0) (encL x):=by
  intro L hd hnd hsum
  have hxl:((cl l).map fun c=>min c L).length = l.length:=by rw [List.length_map,cl_length]
  have hxg:∀ j,j < l.length → ((cl l).map fun c=>min c L).getD j 0 = if done.getD j false = true then ((l.getD j 0:Int):Rat) else L:=fun j hj=>by
   have hj2:j < (cl l).length:=by rw [cl_length];exact hj
   have e1:((cl l).map fun c=>min c L).getD j 0 = min ((cl l).getD j 0) L:=by simp [hj2]
   rw [e1,hgd j hj,Rat.min_def]
   cases hdj:done.getD j false with
   | true=>rw [if_pos (hd j hj hdj),if_pos rfl]
   | false =>
    have:=(hnd j hj hdj).1
    rw [if_neg (by grind),if_neg (by decide)]
  refine ⟨(cl l).map fun c=>min c L,⟨L,rfl,?_⟩,?_⟩
  ·rw [tot_S,hxl]
   have e1:S l.length (fun i=>((cl l).map fun c=>min c L).getD i 0) = S l.length (fun i=>(if done.getD i false then ((l.getD i 0:Int):Rat) else 0) + (if done.getD i false then 0 else 1) * L):=S_congr fun u hu=>by
    rw [hxg u hu]
    cases done.getD u false with
    | true=>simp only [if_true];grind
    | false=>simp only [Bool.false_eq_true,if_false];grind
   rw [e1,S_add,S_mul,← s.cnt,hsum]
   have:=s.est
   grind
  ·refine requal_l1 h s.dl s.e0 s.eb s.lb (fun j hj hdj=>(hnd j hj hdj).2.1) _ hxl (fun j hj hdj=>?_) l.length 0 out (by omega) s.ol (fun j hj hjj=>?_)
   ·rw [hxg j hj,hdj,if_neg (by decide)]
    exact (hnd j hj hdj).2.2
   ·have hdj:done.getD j false = true:=by rcases hjj with hjj | hjj;omega;exact hjj
    rw [hxg j hj,hdj,if_pos rfl]
    exact (s.ok j hj hdj).2
 by_cases h0:left = 0
 ·have hall:∀ j,j < l.length → done.getD j false = true:=fun j hj=>by
   cases hdj:done.getD j false with
   | true=>rfl
   | false=>have:=s.left_pos hj hdj;omega
  have he:(e:Rat) = (E:Rat) - (sI l:Rat):=by
   rw [s.est,← tot_cl,tot_S,cl_length]
   congr 1
   exact S_congr fun u hu=>by rw [hall u hu,if_pos rfl,hgd u hu]
  have he0:e = 0:=by
   have h1:=s.e0
   have:((E - sI l:Int):Rat) = (e:Rat):=by rw [he];push_cast;rfl
   have:=Rat.intCast_inj.1 this
   omega
  refine key 1000 (fun j hj _=>?_) (fun j hj hdj=>by rw [hall j hj] at hdj;cases hdj) ?_
  ·have hg:l.getD j 0 = l[j]:=by simp [hj]
   have hm:=h.mem _ (List.getElem_mem hj)
   rw [hg]
   have:=(okC_int hm).hi
   exact this
  ·rw [h0,he0]
   have e1:((0:Nat):Rat) = 0:=rfl
   have e2:((0:Int):Rat) = 0:=rfl
   rw [e1,e2,Rat.zero_mul]
 ·have hp:=nat_pos_rat (n:=left) (by omega)
  have hmul:(e:Rat) / (left:Rat) * (left:Rat) = (e:Rat):=Rat.div_mul_cancel (by grind)
  refine key ((e:Rat) / (left:Rat)) (fun j hj hdj=>?_) (fun j hj hdj=>⟨?_,by omega,rfl⟩) (by rw [Rat.mul_comm];exact hmul)
  ·refine Rat.le_of_mul_le_mul_right (c:=(left:Rat)) ?_ hp
   rw [hmul]
   have:=int_rat_le.2 (s.ok j hj hdj).1
   push_cast at this
   exact this
  ·have h1:((e:Int):Rat) < ((l.getD j 0 * (left:Int):Int):Rat):=Rat.intCast_lt_intCast.2 (hn j hj hdj)
   push_cast at h1
   apply Classical.byContradiction
   intro hle
   have h2:((l.getD j 0:Int):Rat) ≤ (e:Rat) / (left:Rat):=by grind
   have h3:=Rat.mul_le_mul_of_nonneg_right h2 (Rat.le_of_lt hp)
   rw [hmul] at h3
   grind
theorem requal_l0 (hE:E ≤ sI l):∀ (left:Nat) (d i:Nat) (e:Int) (done:List Bool) (out:List S23),Rq l E e done left out → i + d = l.length → (∀ j,j < i → done.getD j false = false → e < l.getD j 0 * (left:Int)) →
  ∃ x,IsEq (cl l) (E:Rat) x ∧ Ev (fun k=>numnahref07_equal.l0 k l e out done (left:Int) (i:Int)) (encL x):=by
 have hl:=h.ten
 intro left
 induction left with
 | zero =>
  intro d
  induction d with
  | zero =>
   intro i e done out s hi hn
   obtain ⟨x,hx,hev⟩:=requal_exit h hE s (fun j hj=>hn j (by omega))
   refine ⟨x,hx,Ev.step (fun k=>?_) hev⟩
   rw [numnahref07_equal.l0,if_neg (by omega)]
  | succ d ih =>
   intro i e done out s hi hn
   have hil:i < l.length:=by omega
   have hdl:=s.dl
   have hb:rdOf false done (i:Int) = done.getD i false:=by unfold rdOf;rw [Int.toNat_natCast]
   cases hd:done.getD i false with
   | true =>
    obtain ⟨x,hx,hev⟩:=ih (i + 1) e done out s (by omega) (fun j hj hdj=>hn j (by
     by_cases e:j = i
     ·subst e;rw [hd] at hdj;cases hdj
     ·omega) hdj)
    refine ⟨x,hx,Ev.step (fun k=>?_) hev⟩
    rw [numnahref07_equal.l0,if_pos (by omega),if_pos (by omega),if_pos (by omega),hb,hd,if_pos rfl,wrap_succ (by omega)]
   | false=>have:=s.left_pos hil hd;omega
 | succ left ihl =>
  intro d
  induction d with
  | zero =>
   intro i e done out s hi hn
   obtain ⟨x,hx,hev⟩:=requal_exit h hE s (fun j hj=>hn j (by omega))
   refine ⟨x,hx,Ev.step (fun k=>?_) hev⟩
   rw [numnahref07_equal.l0,if_neg (by omega)]
  | succ d ih =>
   intro i e done out s hi hn
   have hil:i < l.length:=by omega
   have hdl:=s.dl
   have hb:rdOf false done (i:Int) = done.getD i false:=by unfold rdOf;rw [Int.toNat_natCast]
   have hg:l.getD i 0 = l[i]:=by simp [hil]
   have hm:=h.mem _ (List.getElem_mem hil)
   have hlb:=s.lb
   have hmul:0 ≤ l[i] * ((left + 1:Nat):Int) ∧ l[i] * ((left + 1:Nat):Int) ≤ 1000 * 10:=by
    refine ⟨Int.mul_nonneg hm.1 (by omega),?_⟩
    exact Int.mul_le_mul hm.2 (by omega) (by omega) (by omega)
   have more:∀ j,j < i + 1 → done.getD j false = false → (j = i → e < l.getD j 0 * ((left + 1:Nat):Int)) → e < l.getD j 0 * ((left + 1:Nat):Int):=fun j hj hdj hji=>by
    by_cases e1:j = i
    ·exact hji e1
    ·exact hn j (by omega) hdj
   cases hd:done.getD i false with
   | true =>
    obtain ⟨x,hx,hev⟩:=ih (i + 1) e done out s (by omega) (fun j hj hdj=>more j hj hdj (fun e1=>by subst e1;rw [hd] at hdj;cases hdj))
    refine ⟨x,hx,Ev.step (fun k=>?_) hev⟩
    rw [numnahref07_equal.l0,if_pos (by omega),if_pos (by omega),if_pos (by omega),hb,hd,if_pos rfl,wrap_succ (by omega)]
   | false =>
    by_cases hc:l[i] * ((left + 1:Nat):Int) > e
    ·obtain ⟨x,hx,hev⟩:=ih (i + 1) e done out s (by omega) (fun j hj hdj=>more j hj hdj (fun e1=>by subst e1;rw [hg];exact hc))
     refine ⟨x,hx,Ev.step (fun k=>?_) hev⟩
     rw [numnahref07_equal.l0,if_pos (by omega),if_pos (by omega),if_pos (by omega),hb,hd,if_neg (by decide),rd_get hil,wrap_id (by omega) (by omega),if_pos hc,wrap_succ (by omega)]
    ·have sn:=s.next h hil hd (by rw [hg];omega)
     obtain ⟨x,hx,hev⟩:=ihl l.length 0 _ _ _ sn (by omega) (fun j hj=>by omega)
     refine ⟨x,hx,Ev.step (fun k=>?_) hev⟩
     have hol:=s.ol
     have he:(⟨l[i],1⟩:S23) = encQ ((l.getD i 0:Int):Rat):=by rw [hg];unfold encQ;rw [whole_num,whole_den];rfl
     have hes:=s.e0
     have heb:=s.eb
     have ew:wrap64 (((left + 1:Nat):Int) - 1) = (left:Int):=by unfold wrap64;omega
     rw [numnahref07_equal.l0,if_pos (by omega),if_pos (by omega),if_pos (by omega),hb,hd,if_neg (by decide),rd_get hil,wrap_id (x:=l[i] * ((left + 1:Nat):Int)) (by omega) (by omega),if_neg hc]
     simp only [numnahref07_Whole.f,Option.bind_some]
     rw [if_pos (by omega),Int.toNat_natCast,he,wrap_id (x:=e - l[i]) (by omega) (by omega),ew,hg]
     rfl
theorem ev_requal (h0:0 ≤ E) (hb:E ≤ 20000) (hE:E ≤ sI l):∃ x,IsEq (cl l) (E:Rat) x ∧ Ev (fun k=>numnahref07_equal.f k l E) (encL x):=by
 have hl:=h.ten
 have hr:∀ {α:Type} (n i:Nat) (a d:α),i < n → (List.replicate n a).getD i d = a:=fun n i a d hi=>by simp [hi]
 have s:Rq l E E (List.replicate l.length false) l.length (List.replicate l.length z23):=by
  refine ⟨by simp,by simp,?_,?_,h0,hb,hl,fun i hi hd=>by rw [hr _ _ _ _ hi] at hd;cases hd⟩
  ·have:S l.length (fun i=>if (List.replicate l.length false).getD i false then (0:Rat) else 1) = S l.length (fun _=>1):=S_congr fun u hu=>by rw [hr _ _ _ _ hu];rfl
   rw [this]
   have:=tot_const (1:Rat) (List.range l.length)
   unfold S
   rw [this,List.length_range]
   grind
  ·have:S l.length (fun i=>if (List.replicate l.length false).getD i false then ((l.getD i 0:Int):Rat) else 0) = 0:=S_zero fun u hu=>by rw [hr _ _ _ _ hu];rfl
   rw [this];grind
 obtain ⟨x,hx,hev⟩:=requal_l0 h hE l.length l.length 0 E _ _ s (by omega) (fun j hj=>by omega)
 refine ⟨x,hx,?_⟩
 unfold numnahref07_equal.f
 refine Ev.congr (fun k=>?_) hev
 rw [if_pos (by omega),if_pos (by omega),if_pos (by omega),Int.toNat_natCast]
 rfl
end
end Go.Proofs.Ytjohcjfmlhihbaa.P
namespace Go.Proofs.Ytjohcjfmlhihbaa.P
open Go Go.RowKit Go.Proofs.Ytjohcjfmlhihbaa.G
open Go.Proofs.YtjohcjfmlhihbaaW.PrintWords Go.Proofs.YtjohcjfmlhihbaaW.PrintMore
theorem min_small {q:List Rat} (hq:∀ c ∈ q,OkC c) (hl:q.length ≤ 10) {E L:Rat} (h0:0 ≤ E) (hE:E.den ∣ 2) (ht:tot (q.map fun c=>min c L) = E):∀ c ∈ q,Sm 20000 20 (min c L):=by
 intro c hc
 obtain ⟨m,hm1,hm2,hd⟩:=IsEq.den (l:=q) (E:=E) ⟨L,rfl,ht⟩ (D:=2) (by omega) (fun c hc=>(hq c hc).den) hE (min c L) (List.mem_map.2 ⟨c,hc,rfl⟩)
 have hL:=level_pos (List.ne_nil_of_mem hc) (fun c=>min c L) L (fun c _=>by grind) (by rw [ht];exact h0)
 have hd2:(min c L).den ≤ 20:=Nat.le_trans (Nat.le_of_dvd (by omega) hd) (by omega)
 have h1:=(hq c hc).lo
 have h2:=(hq c hc).hi
 exact ⟨Nat.le_trans (num_abs (B:=1000) (by grind) (by grind) hd2) (by decide),hd2⟩
theorem half_cl (l:List Int):tot ((cl l).map (· / 2)) = (sI l:Rat) / 2:=by
 have:=half_tot (cl l)
 rw [tot_cl] at this
 exact this
set_option linter.unusedSectionVars false
section
variable {l:List Int} (h:IsCl l) {E:Int} (h0:0 ≤ E) (h1:E ≤ sI l)
include h h0 h1
omit h0 h1 in
theorem sI_cl:0 ≤ sI l ∧ sI l ≤ 10000:=by
 have:=sI_bound h.mem
 have:=h.ten
 omega
theorem E_le:(E:Rat) ≤ tot (cl l):=by rw [tot_cl];exact int_rat_le.2 h1
omit h h1 in
theorem E_ge:(0:Rat) ≤ (E:Rat):=by have:=int_rat_le.2 h0;simpa using this
omit h h0 h1 in
theorem E_den (E:Int):(E:Rat).den ∣ 2:=by rw [whole_den];exact Nat.one_dvd _
theorem ev_awards:∃ x,IsRule 1 (cl l) (E:Rat) x ∧ Ev (fun k=>shares_claims_awards.f k l E) (encL x):=by
 obtain ⟨x,⟨L,rfl,ht⟩,hx⟩:=ev_equal (cl_okC h) (by rw [cl_length];exact h.ten) (E_ge h0) (E_le h h0 h1) (E_den E)
 refine ⟨_,⟨fun c=>min c L,⟨L,rfl⟩,rfl,ht⟩,?_⟩
 unfold shares_claims_awards.f
 refine Ev.bind (ev_whole h E) ?_
 simp only [shares_whole.f,Option.bind_some]
 rw [whole_num,whole_den] at hx
 exact Ev.bind hx (Ev.now _)
theorem ev_losses:∃ x,IsRule 2 (cl l) (E:Rat) x ∧ Ev (fun k=>shares_claims_losses.f k l E) (encL x):=by
 have hs:=sI_cl h
 have e:((sI l - E:Int):Rat) = tot (cl l) - (E:Rat):=by rw [tot_cl];push_cast;rfl
 have hd:(0:Rat) ≤ ((sI l - E:Int):Rat):=E_ge (by omega)
 have hge:=E_ge h0
 obtain ⟨x,⟨L,rfl,ht⟩,hx⟩:=ev_equal (cl_okC h) (by rw [cl_length];exact h.ten) hd (by rw [e];grind) (E_den _)
 have hsm:=min_small (cl_okC h) (by rw [cl_length];exact h.ten) hd (E_den _) ht
 refine ⟨_,⟨fun c=>c - min c L,⟨L,rfl⟩,rfl,?_⟩,?_⟩
 ·have:=tot_sub (fun c=>c) (fun c=>min c L) (cl l)
  rw [List.map_id'] at this
  rw [this,ht,e];grind
 ·unfold shares_claims_losses.f
  refine Ev.bind (ev_whole h E) (Ev.bind (ev_total h.mem (by have:=h.ten;omega)) ?_)
  rw [wrap_id (by omega) (by omega)]
  simp only [shares_whole.f,Option.bind_some]
  rw [whole_num,whole_den] at hx
  refine Ev.bind hx ?_
  exact losses_l0 h (g:=fun c=>min c L) (fun n _ hn=>hsm _ (List.mem_map.2 ⟨n,hn,rfl⟩)) l.length 0 (by omega)
omit h h0 h1 in
theorem map_half (L:Rat):((cl l).map (· / 2)).map (fun c=>min c L) = (cl l).map fun c=>min (c / 2) L:=by rw [List.map_map];rfl
theorem ev_low (hlow:2 * E ≤ sI l):∃ L,tot ((cl l).map fun c=>min (c / 2) L) = (E:Rat) ∧ Ev (fun k=>shares_equal.f k (encL ((cl l).map (· / 2))) E 1) (encL ((cl l).map fun c=>min (c / 2) L)):=by
 have hlen:((cl l).map (· / 2)).length ≤ 10:=by rw [List.length_map,cl_length];exact h.ten
 have hle:(E:Rat) ≤ tot ((cl l).map (· / 2)):=by
  rw [half_cl]
  have:((2 * E:Int):Rat) ≤ (sI l:Rat):=int_rat_le.2 hlow
  push_cast at this
  grind
 obtain ⟨x,⟨L,rfl,ht⟩,hx⟩:=ev_equal (cl_half_okC h) hlen (E_ge h0) hle (E_den E)
 rw [map_half] at ht hx
 rw [whole_num,whole_den] at hx
 exact ⟨L,ht,hx⟩
theorem low_cond (hlow:2 * E ≤ sI l):2 * (E:Rat) ≤ tot (cl l):=by
 rw [tot_cl]
 have:((2 * E:Int):Rat) ≤ (sI l:Rat):=int_rat_le.2 hlow
 push_cast at this
 exact this
theorem high_cond (hlow:¬ 2 * E ≤ sI l):tot (cl l) < 2 * (E:Rat):=by
 rw [tot_cl]
 have:((sI l:Int):Rat) < ((2 * E:Int):Rat):=Rat.intCast_lt_intCast.2 (by omega)
 push_cast at this
 exact this
theorem ev_talmud:∃ x,IsRule 3 (cl l) (E:Rat) x ∧ Ev (fun k=>shares_claims_talmud.f k l E) (encL x):=by
 have hs:=sI_cl h
 have htot:=ev_total h.mem (by have:=h.ten;omega)
 have hge:=E_ge h0
 have hle:=E_le h h0 h1
 unfold shares_claims_talmud.f
 by_cases hlow:2 * E ≤ sI l
 ·obtain ⟨L,ht,hx⟩:=ev_low h h0 h1 hlow
  refine ⟨_,⟨fun c=>min (c / 2) L,.inl ⟨low_cond h h0 h1 hlow,L,rfl⟩,rfl,ht⟩,?_⟩
  refine Ev.bind htot ?_
  rw [wrap_id (by omega) (by omega)]
  refine Ev.congr (fun k=>if_pos hlow) ?_
  refine Ev.bind (ev_halves h E) ?_
  simp only [shares_whole.f,Option.bind_some]
  exact Ev.bind hx (Ev.now _)
 ·have hlen:((cl l).map (· / 2)).length ≤ 10:=by rw [List.length_map,cl_length];exact h.ten
  have hd:(0:Rat) ≤ ((sI l - E:Int):Rat):=E_ge (by omega)
  have e:((sI l - E:Int):Rat) = tot (cl l) - (E:Rat):=by rw [tot_cl];push_cast;rfl
  have hhi:=high_cond h h0 h1 hlow
  have hh:=half_cl l
  rw [← tot_cl] at hh
  obtain ⟨x,⟨L,rfl,ht⟩,hx⟩:=ev_equal (cl_half_okC h) hlen hd (by rw [e,hh];grind) (E_den _)
  have hsm:=min_small (cl_half_okC h) hlen hd (E_den _) ht
  rw [map_half] at ht hx
  refine ⟨_,⟨fun c=>c - min (c / 2) L,.inr ⟨hhi,L,rfl⟩,rfl,?_⟩,?_⟩
  ·have:=tot_sub (fun c=>c) (fun c=>min (c / 2) L) (cl l)
   rw [List.map_id'] at this
   rw [this,ht,e];grind
  ·refine Ev.bind htot ?_
   rw [wrap_id (x:=2 * E) (by omega) (by omega)]
   refine Ev.congr (fun k=>if_neg hlow) ?_
   refine Ev.bind (ev_halves h E) (Ev.bind htot ?_)
   rw [wrap_id (by omega) (by omega)]
   simp only [shares_whole.f,Option.bind_some]
   rw [whole_num,whole_den] at hx
   refine Ev.bind hx ?_
   exact talmud_l0 h (g:=fun c=>min (c / 2) L) (fun n _ hn=>hsm _ (List.mem_map.2 ⟨(n:Rat),List.mem_map.2 ⟨n,hn,rfl⟩,rfl⟩)) l.length 0 (by omega)
theorem ev_piniles:∃ x,IsRule 4 (cl l) (E:Rat) x ∧ Ev (fun k=>shares_claims_piniles.f k l E) (encL x):=by
 have hs:=sI_cl h
 have htot:=ev_total h.mem (by have:=h.ten;omega)
 have hge:=E_ge h0
 have hle:=E_le h h0 h1
 unfold shares_claims_piniles.f
 by_cases hlow:2 * E ≤ sI l
 ·obtain ⟨L,ht,hx⟩:=ev_low h h0 h1 hlow
  refine ⟨_,⟨fun c=>min (c / 2) L,.inl ⟨low_cond h h0 h1 hlow,L,rfl⟩,rfl,ht⟩,?_⟩
  refine Ev.bind htot ?_
  rw [wrap_id (by omega) (by omega)]
  refine Ev.congr (fun k=>if_pos hlow) ?_
  refine Ev.bind (ev_halves h E) ?_
  simp only [shares_whole.f,Option.bind_some]
  exact Ev.bind hx (Ev.now _)
 ·have hlen:((cl l).map (· / 2)).length ≤ 10:=by rw [List.length_map,cl_length];exact h.ten
  have hhi:=high_cond h h0 h1 hlow
  have hh:=half_cl l
  have hq:mkRat (sI l) 2 = (sI l:Rat) / 2:=mk_frac _ _
  have hden:((E:Rat) - (sI l:Rat) / 2).den ∣ 2:=sub_den_dvd' (E_den E) (by rw [← hq];exact den_dvd _ (by omega)) (by omega)
  rw [tot_cl] at hhi hle
  have hd:(0:Rat) ≤ (E:Rat) - (sI l:Rat) / 2:=by grind
  obtain ⟨x,⟨L,rfl,ht⟩,hx⟩:=ev_equal (cl_half_okC h) hlen hd (by rw [hh];grind) hden
  have hsm:=min_small (cl_half_okC h) hlen hd hden ht
  refine ⟨((cl l).map (· / 2)).map fun c=>c + min c L,⟨fun c=>c / 2 + min (c / 2) L,.inr ⟨by rw [tot_cl];exact hhi,L,rfl⟩,by rw [List.map_map];rfl,?_⟩,?_⟩
  ·have:=tot_add (fun c=>c) (fun c=>min c L) ((cl l).map (· / 2))
   rw [List.map_id'] at this
   rw [this,ht,hh];grind
  ·refine Ev.bind htot ?_
   rw [wrap_id (x:=2 * E) (by omega) (by omega)]
   refine Ev.congr (fun k=>if_neg hlow) ?_
   refine Ev.bind (ev_halves h E) ?_
   simp only [shares_whole.f,Option.bind_some]
   refine Ev.bind htot (Ev.bind (ev_frac (sI l) 2 (by omega) (by omega) (by omega)) ?_)
   have hm:=ev_minus (p:=(E:Rat)) (q:=(sI l:Rat) / 2) ((Sm.int (n:=E) (A:=10000) (by omega)).fits (Sm.int (n:=sI l) (A:=10000) (by omega)).half (by decide) (by decide))
   rw [whole_num,whole_den] at hm
   rw [hq]
   refine Ev.bind hm (Ev.bind hx (Ev.bind (ev_halves h E) ?_))
   rw [encL_length]
   exact piniles_l0 (cl_half_okC h) hlen (g:=fun c=>min c L) hsm ((cl l).map (· / 2)).length 0 (by omega)
theorem ev_prop:∃ x,IsRule 0 (cl l) (E:Rat) x ∧ Ev (fun k=>shares_claims_proportional.f k l E) (encL x):=by
 have hs:=sI_cl h
 have htot:=ev_total h.mem (by have:=h.ten;omega)
 obtain ⟨a,ha⟩:∃ a:Nat,mx 1 (sI l) = (a:Int):=⟨(mx 1 (sI l)).toNat,by unfold mx;split <;> omega⟩
 have ha1:0 < a ∧ a ≤ 10000:=by unfold mx at ha;split at ha <;> omega
 have hev:=prop_l0 h h0 (by omega) ha1.1 ha1.2 l.length 0 (by omega)
 refine ⟨(cl l).map fun c=>c * (E:Rat) / (a:Rat),⟨fun c=>if 0 < tot (cl l) then c * (E:Rat) / tot (cl l) else 0,rfl,?_,?_⟩,?_⟩
 ·refine List.map_congr_left fun c hc=>?_
  obtain ⟨n,hn,rfl⟩:=List.mem_map.1 hc
  by_cases hp:0 < sI l
  ·have hp':0 < tot (cl l):=by rw [tot_cl];exact Rat.intCast_pos.2 hp
   have e:(a:Rat) = tot (cl l):=by
    rw [tot_cl]
    have:(a:Int) = sI l:=by unfold mx at ha;split at ha <;> omega
    rw [← this];push_cast;rfl
   rw [if_pos hp',e]
  ·have hp':¬ 0 < tot (cl l):=by rw [tot_cl];exact fun k=>hp (Rat.intCast_pos.1 k)
   rw [if_neg hp']
   have hE:E = 0:=by omega
   subst hE
   have:((0:Int):Rat) = 0:=rfl
   rw [this,Rat.mul_zero,Rat.div_def,Rat.zero_mul]
 ·by_cases hp:0 < sI l
  ·have e:(a:Rat) = tot (cl l):=by
    rw [tot_cl]
    have:(a:Int) = sI l:=by unfold mx at ha;split at ha <;> omega
    rw [← this];push_cast;rfl
   have hp':0 < tot (cl l):=by rw [tot_cl];exact Rat.intCast_pos.2 hp
   have e2:((cl l).map fun c=>c * (E:Rat) / (a:Rat)) = (cl l).map fun c=>c * ((E:Rat) / (a:Rat)):=List.map_congr_left fun c _=>by
    rw [Rat.div_def,Rat.div_def,Rat.mul_assoc]
   rw [e2,tot_mul (fun c=>c),List.map_id',e,Rat.mul_comm]
   exact Rat.div_mul_cancel (by grind)
  ·have hE:E = 0:=by omega
   subst hE
   have e2:((cl l).map fun c=>c * ((0:Int):Rat) / (a:Rat)) = (cl l).map fun c=>c * 0:=List.map_congr_left fun c _=>by
    have:((0:Int):Rat) = 0:=rfl
    rw [this,Rat.mul_zero,Rat.div_def,Rat.zero_mul]
   rw [e2,tot_mul (fun c=>c),Rat.mul_zero]
   rfl
 ·unfold shares_claims_proportional.f
  refine Ev.bind htot ?_
  rw [ha]
  exact hev
theorem ev_Award {r:Nat} (hr:r ≤ 4):∃ x,IsRule r (cl l) (E:Rat) x ∧ Ev (fun k=>shares_Award.f k (r:Int) l E) (encL x,0):=by
 have hc:clB l E = true:=decide_eq_true ⟨h,h0,h1⟩
 have hf:H.fitL l:=by unfold H.fitL;have:=h.ten;omega
 have hn:=ev_newClaims hf E
 rw [hc] at hn
 unfold shares_Award.f
 obtain rfl | rfl | rfl | rfl | rfl:r = 0 ∨ r = 1 ∨ r = 2 ∨ r = 3 ∨ r = 4:=by omega
 ·obtain ⟨x,h1,h2⟩:=ev_prop h h0 h1
  exact ⟨x,h1,Ev.bind hn (Ev.bind h2 (Ev.now _))⟩
 ·obtain ⟨x,h1,h2⟩:=ev_awards h h0 h1
  exact ⟨x,h1,Ev.bind hn (Ev.bind h2 (Ev.now _))⟩
 ·obtain ⟨x,h1,h2⟩:=ev_losses h h0 h1
  exact ⟨x,h1,Ev.bind hn (Ev.bind h2 (Ev.now _))⟩
 ·obtain ⟨x,h1,h2⟩:=ev_talmud h h0 h1
  exact ⟨x,h1,Ev.bind hn (Ev.bind h2 (Ev.now _))⟩
 ·obtain ⟨x,h1,h2⟩:=ev_piniles h h0 h1
  exact ⟨x,h1,Ev.bind hn (Ev.bind h2 (Ev.now _))⟩
end
theorem ev_Award_no {l:List Int} (hf:H.fitL l) {E:Int} (hc:clB l E = false) (r:Int):Ev (fun k=>shares_Award.f k r l E) ([],2):=by
 have hn:=ev_newClaims hf E
 rw [hc] at hn
 unfold shares_Award.f
 exact Ev.bind hn (Ev.now _)
theorem ev_Award_bad {l:List Int} (hf:H.fitL l) (E:Int) {r:Int} (hr:¬ (0 ≤ r ∧ r ≤ 4)):Ev (fun k=>shares_Award.f k r l E) ([],2):=by
 have hn:=ev_newClaims hf E
 unfold shares_Award.f
 refine Ev.bind hn ?_
 refine Ev.congr (f:=fun _=>some ([],2)) (fun k=>?_) (Ev.now _)
 rw [if_neg (show ¬ r = 0 by omega),if_neg (show ¬ r = 1 by omega),if_neg (show ¬ r = 2 by omega),if_neg (show ¬ r = 3 by omega),if_neg (show ¬ r = 4 by omega),ite_self]
end Go.Proofs.Ytjohcjfmlhihbaa.P
namespace Go.Proofs.Ytjohcjfmlhihbaa.G
open Go.RowKit Go.Proofs.YtjohcjfmlhihbaaW.PrintWords Go.Proofs.YtjohcjfmlhihbaaW.PrintLast Go.Proofs.YtjohcjfmlhihbaaW.PrintMore
set_option maxHeartbeats 8000000
set_option maxRecDepth 100000
attribute [local go_sem] cond_true cond_false fld23_0 fld23_1 fld45_0 fld45_1 fld109_0 fld109_1 fld94_0 fld94_1 max2_int min2_int max_two min_two max_three min_three max_four min_four
mutual
def numnahref07_Award.l0:Nat → Int → List Int → Int → Int → List (S23) → Int → Option ((List (S23)))
 | 0,_,_,_,_,_,_=>none
 | k + 1,x0,x1,x2,x7,x8,x9=>if x9 < (x1.length:Int) then (if 0 ≤ x9 then ((numnahref07_Whole.f (rd x1 x9)).bind fun j9=>((numnahref07_Whole.f 0).bind fun l5=>(if x0 = 0 then (numnahref07_Award.j1 k x0 x1 x2 x7 x8 x9 (decide (x7 > 0)) j9.1 j9.2 l5.1 l5.2) else (numnahref07_Award.j1 k x0 x1 x2 x7 x8 x9 false j9.1 j9.2 l5.1 l5.2)))) else (none)) else (some x8)
def numnahref07_Award.j1:Nat → Int → List Int → Int → Int → List (S23) → Int → Bool → Int → Int → Int → Int → Option ((List (S23)))
 | 0,_,_,_,_,_,_,_,_,_,_,_=>none
 | k + 1,x0,x1,x2,x7,x8,x9,x26,d5,d6,e7,e8=>if x26 = true then (if 0 ≤ x9 then (if x9 < (x1.length:Int) then ((numnahref07_Reduced.f k (wrap64 ((rd x1 x9) * x2)) x7).bind fun m6=>(if x8.length < 8796093022208 then (numnahref07_Award.l0 k x0 x1 x2 x7 (x8 ++ [(⟨m6.1,m6.2⟩:S23)]) (wrap64 (x9 + 1))) else (none))) else (none)) else (none)) else (if x0 = 1 then ((numnahref07_equal.f k x1 x2).bind fun d2=>(if 0 ≤ x9 then (if x9 < (d2.length:Int) then (if x8.length < 8796093022208 then (numnahref07_Award.l0 k x0 x1 x2 x7 (x8 ++ [(⟨(rd_T23 d2 x9).f0,(rd_T23 d2 x9).f1⟩:S23)]) (wrap64 (x9 + 1))) else (none)) else (none)) else (none))) else (if x0 = 2 then ((numnahref07_equal.f k x1 (wrap64 (x7 - x2))).bind fun d7=>(if 0 ≤ x9 then (if x9 < (d7.length:Int) then ((numnahref07_Sub.f k d5 d6 ((rd_T23 d7 x9).f0) ((rd_T23 d7 x9).f1)).bind fun i1=>(if x8.length < 8796093022208 then (numnahref07_Award.l0 k x0 x1 x2 x7 (x8 ++ [(⟨i1.1,i1.2⟩:S23)]) (wrap64 (x9 + 1))) else (none))) else (none)) else (none))) else (if x0 ≥ 3 then (numnahref07_Award.j2 k x0 x1 x2 x7 x8 x9 (decide ((wrap64 (2 * x2)) ≤ x7)) d5 d6 e7 e8) else (numnahref07_Award.j2 k x0 x1 x2 x7 x8 x9 false d5 d6 e7 e8))))
def numnahref07_Award.j2:Nat → Int → List Int → Int → Int → List (S23) → Int → Bool → Int → Int → Int → Int → Option ((List (S23)))
 | 0,_,_,_,_,_,_,_,_,_,_,_=>none
 | k + 1,x0,x1,x2,x7,x8,x9,x63,d5,d6,e7,e8=>if x63 = true then ((numnahref07_equal.f k x1 (wrap64 (2 * x2))).bind fun d8=>(if 0 ≤ x9 then (if x9 < (d8.length:Int) then ((numnahref07_Half.f k ((rd_T23 d8 x9).f0) ((rd_T23 d8 x9).f1)).bind fun i2=>(if x8.length < 8796093022208 then (numnahref07_Award.l0 k x0 x1 x2 x7 (x8 ++ [(⟨i2.1,i2.2⟩:S23)]) (wrap64 (x9 + 1))) else (none))) else (none)) else (none))) else (if x0 = 3 then ((numnahref07_equal.f k x1 (wrap64 (2 * (wrap64 (x7 - x2))))).bind fun d9=>(if 0 ≤ x9 then (if x9 < (d9.length:Int) then ((numnahref07_Half.f k ((rd_T23 d9 x9).f0) ((rd_T23 d9 x9).f1)).bind fun i3=>((numnahref07_Sub.f k d5 d6 i3.1 i3.2).bind fun i4=>(if x8.length < 8796093022208 then (numnahref07_Award.l0 k x0 x1 x2 x7 (x8 ++ [(⟨i4.1,i4.2⟩:S23)]) (wrap64 (x9 + 1))) else (none)))) else (none)) else (none))) else (if x0 = 4 then ((numnahref07_equal.f k x1 (wrap64 ((wrap64 (2 * x2)) - x7))).bind fun e0=>(if 0 ≤ x9 then (if x9 < (e0.length:Int) then ((numnahref07_Add.f k d5 d6 ((rd_T23 e0 x9).f0) ((rd_T23 e0 x9).f1)).bind fun i5=>((numnahref07_Half.f k i5.1 i5.2).bind fun i6=>(if x8.length < 8796093022208 then (numnahref07_Award.l0 k x0 x1 x2 x7 (x8 ++ [(⟨i6.1,i6.2⟩:S23)]) (wrap64 (x9 + 1))) else (none)))) else (none)) else (none))) else (if x8.length < 8796093022208 then (numnahref07_Award.l0 k x0 x1 x2 x7 (x8 ++ [(⟨e7,e8⟩:S23)]) (wrap64 (x9 + 1))) else (none))))
end
def numnahref07_Award.f (k:Nat) (a0:Int) (l1:List Int) (a2:Int):Option ((List (S23))):=(numnahref07_total.f k l1).bind fun d3=>(numnahref07_Award.l0 k a0 l1 a2 d3 ([]:List (S23)) 0)
theorem numnahref07_Award.mono_l:∀ k,(∀ y0 y1 y2 y3 y4 y5,LeO (numnahref07_Award.l0 k y0 y1 y2 y3 y4 y5) (numnahref07_Award.l0 (k + 1) y0 y1 y2 y3 y4 y5)) ∧ (∀ y0 y1 y2 y3 y4 y5 y6 y7 y8 y9 n0,LeO (numnahref07_Award.j1 k y0 y1 y2 y3 y4 y5 y6 y7 y8 y9 n0) (numnahref07_Award.j1 (k + 1) y0 y1 y2 y3 y4 y5 y6 y7 y8 y9 n0)) ∧ (∀ y0 y1 y2 y3 y4 y5 y6 y7 y8 y9 n0,LeO (numnahref07_Award.j2 k y0 y1 y2 y3 y4 y5 y6 y7 y8 y9 n0) (numnahref07_Award.j2 (k + 1) y0 y1 y2 y3 y4 y5 y6 y7 y8 y9 n0))
 | 0=>⟨fun _ _ _ _ _ _ r h=>by simp [numnahref07_Award.l0] at h,fun _ _ _ _ _ _ _ _ _ _ _ r h=>by simp [numnahref07_Award.j1] at h,fun _ _ _ _ _ _ _ _ _ _ _ r h=>by simp [numnahref07_Award.j2] at h⟩
 | k + 1=>by
  obtain ⟨p8,p9,q0⟩:=numnahref07_Award.mono_l k
  refine ⟨?_,?_,?_⟩
  ·intro y0 y1 y2 y3 y4 y5
   unfold numnahref07_Award.l0
   repeat' first
   | (with_reducible first | exact p8 _ _ _ _ _ _ | exact p9 _ _ _ _ _ _ _ _ _ _ _ | exact q0 _ _ _ _ _ _ _ _ _ _ _ | exact numnahref07_Add.mono _ _ _ _ _ | exact numnahref07_Half.mono _ _ _ | exact numnahref07_Reduced.mono _ _ _ | exact numnahref07_Sub.mono _ _ _ _ _ | exact numnahref07_equal.mono _ _ _ | exact numnahref07_total.mono _ _ | exact LeO.refl _ | exact LeO.none _ | refine LeO.ite ?_ ?_ | refine LeO.bind ?_ (fun _=>?_))
   | exact LeO.none _ | refine LeO.ite ?_ ?_ | refine LeO.bind ?_ (fun _=>?_)
  ·intro y0 y1 y2 y3 y4 y5 y6 y7 y8 y9 n0
   unfold numnahref07_Award.j1
   repeat' first
   | (with_reducible first | exact p8 _ _ _ _ _ _ | exact p9 _ _ _ _ _ _ _ _ _ _ _ | exact q0 _ _ _ _ _ _ _ _ _ _ _ | exact numnahref07_Add.mono _ _ _ _ _ | exact numnahref07_Half.mono _ _ _ | exact numnahref07_Reduced.mono _ _ _ | exact numnahref07_Sub.mono _ _ _ _ _ | exact numnahref07_equal.mono _ _ _ | exact numnahref07_total.mono _ _ | exact LeO.refl _ | exact LeO.none _ | refine LeO.ite ?_ ?_ | refine LeO.bind ?_ (fun _=>?_))
   | exact LeO.none _ | refine LeO.ite ?_ ?_ | refine LeO.bind ?_ (fun _=>?_)
  intro y0 y1 y2 y3 y4 y5 y6 y7 y8 y9 n0
  unfold numnahref07_Award.j2
  repeat' first
  | (with_reducible first | exact p8 _ _ _ _ _ _ | exact p9 _ _ _ _ _ _ _ _ _ _ _ | exact q0 _ _ _ _ _ _ _ _ _ _ _ | exact numnahref07_Add.mono _ _ _ _ _ | exact numnahref07_Half.mono _ _ _ | exact numnahref07_Reduced.mono _ _ _ | exact numnahref07_Sub.mono _ _ _ _ _ | exact numnahref07_equal.mono _ _ _ | exact numnahref07_total.mono _ _ | exact LeO.refl _ | exact LeO.none _ | refine LeO.ite ?_ ?_ | refine LeO.bind ?_ (fun _=>?_))
  | exact LeO.none _ | refine LeO.ite ?_ ?_ | refine LeO.bind ?_ (fun _=>?_)
theorem numnahref07_Award.mono:∀ a0 a1 a2 k,LeO (numnahref07_Award.f k a0 a1 a2) (numnahref07_Award.f (k + 1) a0 a1 a2):=by
 intro a0 a1 a2 k
 obtain ⟨p8,p9,q0⟩:=numnahref07_Award.mono_l k
 unfold numnahref07_Award.f
 repeat' first
   | (with_reducible first | exact p8 _ _ _ _ _ _ | exact p9 _ _ _ _ _ _ _ _ _ _ _ | exact q0 _ _ _ _ _ _ _ _ _ _ _ | exact numnahref07_Add.mono _ _ _ _ _ | exact numnahref07_Half.mono _ _ _ | exact numnahref07_Reduced.mono _ _ _ | exact numnahref07_Sub.mono _ _ _ _ _ | exact numnahref07_equal.mono _ _ _ | exact numnahref07_total.mono _ _ | exact LeO.refl _ | exact LeO.none _ | refine LeO.ite ?_ ?_ | refine LeO.bind ?_ (fun _=>?_))
   | exact LeO.none _ | refine LeO.ite ?_ ?_ | refine LeO.bind ?_ (fun _=>?_)
def numnahref07_Award.T13:Bool × List (List Nat × List Nat):=(true,[([],[]),([],[]),([],[]),([],[]),([2,3],[2,3]),([1,4],[1,4]),([],[]),([5,6],[5,6]),([7],[7]),([0,8,5],[0,8]),([9,9,0,1,2,3,4,5,6,7,8,9],[9])])
def numnahref07_Award.B13:List Nat:=[0,0,0,0,12,30,0,126,254,511,1023]
theorem numnahref07_Award.tab13:rtab .any (opsOf Try.f38 13) = numnahref07_Award.T13:=by kernel_rfl
theorem numnahref07_Award.bits13:waitsOk numnahref07_Award.T13.2 numnahref07_Award.B13 = true:=by kernel_rfl
def numnahref07_Award.T17:Bool × List (List Nat × List Nat):=(true,[([],[]),([],[]),([],[]),([],[]),([2,3],[2,3]),([4],[4]),([1,5],[1,5]),([],[]),([6,7],[6,7]),([8],[8]),([9,6],[9]),([0,10,10],[0,10]),([11,11,0,1,2,3,4,5,6,7,8,9,10,11],[11])])
def numnahref07_Award.B17:List Nat:=[0,0,0,0,12,28,62,0,254,510,1022,2047,4095]
theorem numnahref07_Award.tab17:rtab .any (opsOf Try.f38 17) = numnahref07_Award.T17:=by kernel_rfl
theorem numnahref07_Award.bits17:waitsOk numnahref07_Award.T17.2 numnahref07_Award.B17 = true:=by kernel_rfl
def numnahref07_Award.T19:Bool × List (List Nat × List Nat):=(true,[([],[]),([],[]),([],[]),([2],[2]),([],[]),([3,4],[3,4]),([1,5],[1,5]),([],[]),([6,7],[6,7]),([8],[8]),([0,9,6],[0,9]),([10,10],[10]),([11,11,0,1,2,3,4,5,6,7,8,9,10,11],[11])])
def numnahref07_Award.B19:List Nat:=[0,0,0,4,0,28,62,0,254,510,1023,2047,4095]
theorem numnahref07_Award.tab19:rtab .any (opsOf Try.f38 19) = numnahref07_Award.T19:=by kernel_rfl
theorem numnahref07_Award.bits19:waitsOk numnahref07_Award.T19.2 numnahref07_Award.B19 = true:=by kernel_rfl
theorem numnahref07_Award.calls (k:Nat) (a0:Int) (A1:Option Addr) (c1:Nat) (l1:List Int) (a2:Int) (r:List (S23)) (w:World) (J8:Kd.C (Kd.int .i64) w A1 l1.length l1) (J9:l1.length ≤ c1) (h:numnahref07_Award.f k a0 l1 a2 = some r) :
  Calls Try.prog 38 #[.int .i64 a0,.slice A1 l1.length c1,.int .i64 a2] w fun e w'=>∃ K0:Value,e = .returned (K0) ∧ Kd.R k23 23 w' w.heap.size (fun _=>True) K0 r ∧ Below w.heap.size w w':=by
 have P9:=Try.underlying23
 have m7:=A_ J8
 have p6:=A_ J9
 clear J8 J9
 have HB:=A_ (Below.refl w.heap.size w)
 have H:((numnahref07_total.f k l1).bind fun d3=>(numnahref07_Award.l0 k a0 l1 a2 d3 ([]:List (S23)) 0)) = some r:=h
 clear h
 replace H:=Option.bind_eq_some_iff.mp H
 obtain ⟨d3,K1,H⟩:=H
 replace H:(numnahref07_Award.l0 k a0 l1 a2 d3 ([]:List (S23)) 0) = some r:=H
 have A4:=A_ K1
 clear K1
 have H':=A_ H
 clear H
 go_enter Try.func38,Try.ntmps38
 go_wp2_with (first | ((with_reducible refine gate_callee (f:=65) rfl ?_);refine gL (some 13) Try.func65 #[.slice A1 l1.length c1] ?_;(with_reducible refine (numnahref07_total.calls k _ _ l1 d3 _ ?side1 ?side2 A4.out).mono ?_);(case side1=>repeat (first | exact m7.out | (with_reducible refine Kd.C_alloc ?_ _) | (with_reducible refine Kd.C_drewN ?_ _) | (with_reducible refine Kd.C_drew ?_)));(case side2=>exact p6.out);rintro e w' ⟨rfl,⟨nd,rfl⟩⟩;refine ⟨_,rfl,?_⟩))
 go_loopg [8,9] k (fun kq v8 v9 w'=>∃ (d1:List (S23)) (b4:Int),v9 = .int .i64 b4 ∧ Aside0 (numnahref07_Award.l0 kq a0 l1 a2 d3 d1 b4 = some r) ∧ Aside0 (kq ≤ k) ∧ Aside0 (Kd.R k23 23 w' w.heap.size (fun _=>True) v8 d1) ∧ Aside0 (Below w.heap.size w w'))
 case atStart=>exact ⟨(([]:List (S23))),(0),(by first | rfl | (simp;done) | (simp [*];done)),H',⟨Nat.le_refl _⟩,⟨by first | exact Kd.R_nil _ _ _ _ _ | exact Kd.N_nil _ _ _ _ _ | exact Kd.V_nil _ _ _ _ _ | exact Kd.Q_nil _ _ _ _ _ | exact Kd.S_nil _ _ _ _ _⟩,⟨bl HB⟩⟩
 case round =>
  clear H'
  obtain ⟨d1,b4,rfl,HA,i0,b5,HB⟩:=hrel
  cases gk with
  | zero=>exact absurd HA.out (by simp [numnahref07_Award.l0])
  | succ k1 =>
   have H:=HA.out
   clear HA
   simp only [numnahref07_Award.l0] at H
   by_cases c5:b4 < (l1.length:Int)
   case neg =>
    rw [if_neg c5] at H
    have H3:=decide_eq_false c5
    clear c5
    obtain rfl:=Option.some.inj H
    go_wp2
    go_ret
    exact ⟨_,by first | rfl | (simp [errW_none,errW_some] <;> rfl) | (simp [*,errW_none,errW_some] <;> rfl),by (with_reducible repeat (first | apply Kd.R_alloc | apply Kd.R_drewN | apply Kd.R_drew));exact b5.out,bl HB⟩
   rw [if_pos c5] at H
   have H3:=decide_eq_true c5
   clear c5
   replace H:=gd H
   obtain ⟨c6,H⟩:=H
   have Q0:=decide_eq_true c6
   clear c6
   replace H:=Option.bind_eq_some_iff.mp H
   obtain ⟨⟨c0,d0⟩,A0,H⟩:=H
   dsimp only at H
   have A7:=A_ A0
   clear A0
   replace H:=Option.bind_eq_some_iff.mp H
   obtain ⟨⟨b9,b7⟩,A80,H⟩:=H
   dsimp only at H
   have A8:=A_ A80
   clear A80
   have H4:=A_ H
   clear H
   have n1:0 ≤ (b4:Int):=of_decide_eq_true (by first | (with_reducible assumption) | assumption)
   have n2:b4 < (l1.length:Int):=of_decide_eq_true (by first | (with_reducible assumption) | assumption)
   obtain ⟨h6,H5,h7⟩:=Kd.at_int m7.out b4 n1 n2
   cases H5
   replace h7:=(HB.out.cell (World.block_lt_of_cell? w _ h7)).trans h7
   replace n1:=eq_true n1
   replace n2:=eq_true n2
   go_upto_region 8 with (first | ((with_reducible refine gate_callee (f:=23) rfl ?_);refine gL (some 24) Try.func23 #[.int .i64 (rd l1 b4)] ?_;(with_reducible refine (numnahref07_Whole.calls (rd l1 b4) c0 d0 _ A7.out).mono ?_);rintro e U7 ⟨rfl,hb⟩;refine ⟨_,rfl,?_⟩;replace b5:=rB b5 hb;replace HB:=bB HB hb;(try clear hb)) | ((with_reducible refine gate_dst (N:=10) rfl ?_);refine bx 10 #[.int .i64 0,.int .i64 0] 23 ?_;intro b6 hg K2 hbox hb;have b3:=A_ hbox;have q1:=gw hg HB;have K3:=q1;replace b5:=A_ (Kd.R_below (Kd.R_elderB (rs b5) b6 (Nat.le_of_eq hg.symm)) hb);replace HB:=bB HB hb;clear hb hbox hg;have A2:K2.cell? ⟨b6,0,none⟩ = some (.int .i64 0):=cz b3 0;have A3:K2.cell? ⟨b6,1,none⟩ = some (.int .i64 0):=cz b3 1;have A5:=blk_frozen b3.out 0;have A6:=blk_frozen b3.out 1) | ((with_reducible refine gate_callee (f:=23) rfl ?_);refine gL (some 25) Try.func23 #[.int .i64 0] ?_;(with_reducible refine (numnahref07_Whole.calls 0 b9 b7 _ A8.out).mono ?_);rintro e U8 ⟨rfl,hb⟩;refine ⟨_,rfl,?_⟩;replace b5:=A_ (Kd.R_below (by (with_reducible repeat (first | apply Kd.R_alloc | apply Kd.R_drewN | apply Kd.R_drew));exact (Kd.R_mono (Kd.R_far (p:=⟨b6,1,none⟩) (Kd.R_far (p:=⟨b6,0,none⟩) (Kd.R_mono b5.out (fun k_ hk=>(⟨hk,hk.2⟩:_ ∧ k_ ≠ b6))) (fun _ hk=>hk.2) (.int .i64 c0)) (fun _ hk=>hk.2) (.int .i64 d0)) (fun _ h_=>h_.1))) hb);replace b3:=A_ (blk_below (g:=b6) (o:=.cells #[.int .i64 c0,.int .i64 d0] 23 (0,0)) (by (with_reducible repeat (first | refine blk_drewN ?_ _ | refine blk_drew ?_ | refine blk_alloc ?_ _));refine blk_put (cs:=#[.int .i64 c0,.int .i64 0]) ?_ 1 _ rfl;(with_reducible repeat (first | refine blk_drewN ?_ _ | refine blk_drew ?_ | refine blk_alloc ?_ _));refine blk_put (cs:=#[.int .i64 0,.int .i64 0]) ?_ 0 _ rfl;(with_reducible repeat (first | refine blk_drewN ?_ _ | refine blk_drew ?_ | refine blk_alloc ?_ _));exact b3.out) hb);replace HB:=bB HB hb;(try clear hb)) | ((with_reducible refine gate_dst (N:=11) rfl ?_);refine bx 11 #[.int .i64 0,.int .i64 0] 23 ?_;intro b1 hg K4 hbox hb;have b2:=A_ hbox;have q2:=gw hg HB;have K5:=q2;have b0:=nl hg b3;have b8:=ng hg b3;replace b5:=A_ (Kd.R_below (Kd.R_elderB (rs b5) b1 (Nat.le_of_eq hg.symm)) hb);replace b3:=kB b3 hb;replace HB:=bB HB hb;clear hb hbox hg;have K6:=b8.out;have K7:=b0.out;have A9:K4.cell? ⟨b1,0,none⟩ = some (.int .i64 0):=cz b2 0;have B0:K4.cell? ⟨b1,1,none⟩ = some (.int .i64 0):=cz b2 1;have C0:=blk_frozen b2.out 0;have C1:=blk_frozen b2.out 1))
   (try simp only [Act.put,List.setIfInBounds_toArray,List.set_cons_zero,List.set_cons_succ])
   go_cut [26] (fun Q1 wc=>∃ (kq:Nat) (l6:Bool),Q1 = .bool l6 ∧ Aside0 (numnahref07_Award.j1 kq a0 l1 a2 d3 d1 b4 l6 c0 d0 b9 b7 = some r) ∧ Aside0 (kq ≤ k1) ∧ Aside0 (Kd.R k23 23 wc w.heap.size (fun k_=>k_ ≠ b6 ∧ k_ ≠ b1) u8 d1) ∧ Aside0 (wc.heap[b6]? = some (.cells #[.int .i64 c0,.int .i64 d0] 23 (0,0))) ∧ Aside0 (wc.heap[b1]? = some (.cells #[.int .i64 b9,.int .i64 b7] 23 (0,0))) ∧ Aside0 (Below w.heap.size w wc))
   case first =>
    have H:=H4.out
    clear H4
    by_cases n3:a0 = 0
    case neg =>
     rw [if_neg n3] at H
     have i7:(a0 == 0) = false:=beq_eq_false_iff_ne.mpr n3
     have q3:(a0 != 0) = true:=bne_iff_ne.mpr n3
     (first | rw [i7] | (simp only [i64_w,i32_w];rw [i7]) | skip)
     have H':=A_ H
     clear H
     go_wp2
     go_meet
     case rel=>exact ⟨_,(false),(by first | rfl | (simp;done) | (simp [*];done)),H',⟨by have:=i0.out;first | omega | exact Nat.le_refl _⟩,⟨by (with_reducible repeat (first | apply Kd.R_alloc | apply Kd.R_drewN | apply Kd.R_drew));exact Kd.R_mono (Kd.R_far (p:=⟨b1,1,none⟩) (Kd.R_far (p:=⟨b1,0,none⟩) (Kd.R_mono b5.out (fun k_ hk=>(⟨hk,hk.2⟩:_ ∧ k_ ≠ b1))) (fun _ hk=>hk.2) (.int .i64 b9)) (fun _ hk=>hk.2) (.int .i64 b7)) (fun _ hk=>⟨hk.1.1.2,hk.1.2⟩)⟩,⟨by (with_reducible repeat (first | refine blk_drewN ?_ _ | refine blk_drew ?_ | refine blk_alloc ?_ _));refine blk_far ?_ b0.out _;(with_reducible repeat (first | refine blk_drewN ?_ _ | refine blk_drew ?_ | refine blk_alloc ?_ _));refine blk_far ?_ b0.out _;(with_reducible repeat (first | refine blk_drewN ?_ _ | refine blk_drew ?_ | refine blk_alloc ?_ _));exact b3.out⟩,⟨by (with_reducible repeat (first | refine blk_drewN ?_ _ | refine blk_drew ?_ | refine blk_alloc ?_ _));refine blk_put (cs:=#[.int .i64 b9,.int .i64 0]) ?_ 1 _ rfl;(with_reducible repeat (first | refine blk_drewN ?_ _ | refine blk_drew ?_ | refine blk_alloc ?_ _));refine blk_put (cs:=#[.int .i64 0,.int .i64 0]) ?_ 0 _ rfl;(with_reducible repeat (first | refine blk_drewN ?_ _ | refine blk_drew ?_ | refine blk_alloc ?_ _));exact b2.out⟩,⟨bl HB⟩⟩
    rw [if_pos n3] at H
    have i7:(a0 == 0) = true:=beq_iff_eq.mpr n3
    have q3:(a0 != 0) = false:=bne_eq_false_iff_eq.mpr n3
    clear n3
    (first | rw [i7] | (simp only [i64_w,i32_w];rw [i7]) | skip)
    have H':=A_ H
    clear H
    go_wp2
    go_meet
    case rel=>exact ⟨_,(decide (d3 > 0)),(by first | rfl | (simp;done) | (simp [*];done)),H',⟨by have:=i0.out;first | omega | exact Nat.le_refl _⟩,⟨by (with_reducible repeat (first | apply Kd.R_alloc | apply Kd.R_drewN | apply Kd.R_drew));exact Kd.R_mono (Kd.R_far (p:=⟨b1,1,none⟩) (Kd.R_far (p:=⟨b1,0,none⟩) (Kd.R_mono b5.out (fun k_ hk=>(⟨hk,hk.2⟩:_ ∧ k_ ≠ b1))) (fun _ hk=>hk.2) (.int .i64 b9)) (fun _ hk=>hk.2) (.int .i64 b7)) (fun _ hk=>⟨hk.1.1.2,hk.1.2⟩)⟩,⟨by (with_reducible repeat (first | refine blk_drewN ?_ _ | refine blk_drew ?_ | refine blk_alloc ?_ _));refine blk_far ?_ b0.out _;(with_reducible repeat (first | refine blk_drewN ?_ _ | refine blk_drew ?_ | refine blk_alloc ?_ _));refine blk_far ?_ b0.out _;(with_reducible repeat (first | refine blk_drewN ?_ _ | refine blk_drew ?_ | refine blk_alloc ?_ _));exact b3.out⟩,⟨by (with_reducible repeat (first | refine blk_drewN ?_ _ | refine blk_drew ?_ | refine blk_alloc ?_ _));refine blk_put (cs:=#[.int .i64 b9,.int .i64 0]) ?_ 1 _ rfl;(with_reducible repeat (first | refine blk_drewN ?_ _ | refine blk_drew ?_ | refine blk_alloc ?_ _));refine blk_put (cs:=#[.int .i64 0,.int .i64 0]) ?_ 0 _ rfl;(with_reducible repeat (first | refine blk_drewN ?_ _ | refine blk_drew ?_ | refine blk_alloc ?_ _));exact b2.out⟩,⟨bl HB⟩⟩
   case rest =>
    clear H4
    obtain ⟨kq,l6,rfl,HA,j8,b5,b3,b2,HB⟩:=hcut
    cases kq with
    | zero=>exact absurd HA.out (by simp [numnahref07_Award.j1])
    | succ l8 =>
     have H:=HA.out
     clear HA
     simp only [numnahref07_Award.j1] at H
     by_cases C2:l6 = true
     ·subst C2
      rw [if_pos rfl] at H
      replace H:=gd H
      obtain ⟨K8,H⟩:=H
      have K9:=decide_eq_true K8
      clear K8
      replace H:=gd H
      obtain ⟨L0,H⟩:=H
      have L1:=decide_eq_true L0
      clear L0
      replace H:=Option.bind_eq_some_iff.mp H
      obtain ⟨⟨h1,i8⟩,A210,H⟩:=H
      dsimp only at H
      have Q2:=A_ A210
      clear A210
      replace H:=gd H
      obtain ⟨L2,H⟩:=H
      have q4:=A_ L2
      clear L2
      obtain ⟨H6,l9⟩:∃ y_:List (S23),y_ = (d1 ++ [(⟨h1,i8⟩:S23)]):=⟨_,rfl⟩
      rw [← l9] at H
      have q5:=A_ l9
      clear l9
      have H':=A_ H
      clear H
      have n4:0 ≤ (b4:Int):=of_decide_eq_true (by first | (with_reducible assumption) | assumption)
      have n5:b4 < (l1.length:Int):=of_decide_eq_true (by first | (with_reducible assumption) | assumption)
      obtain ⟨q6,H7,h8⟩:=Kd.at_int m7.out b4 n4 n5
      obtain rfl:h6 = q6:=(by injection H7)
      replace h8:=(HB.out.cell (World.block_lt_of_cell? w _ h8)).trans h8
      replace n4:=eq_true n4
      replace n5:=eq_true n5
      go_wp2_with (first | ((with_reducible refine gate_callee (f:=34) rfl ?_);refine gL (some 40) Try.func34 #[.int .i64 (wrap64 ((rd l1 b4) * a2)),.int .i64 d3] ?_;(with_reducible refine (numnahref07_Reduced.calls l8 (wrap64 ((rd l1 b4) * a2)) d3 h1 i8 _ Q2.out).mono ?_);rintro e L3 ⟨rfl,hb⟩;refine ⟨_,rfl,?_⟩;replace b5:=rB b5 hb;replace b3:=kB b3 hb;replace b2:=kB b2 hb;replace HB:=bB HB hb;(try clear hb);have L4:=b8.out;have L5:=b0.out;have C3:L3.cell? ⟨b1,0,none⟩ = some (.int .i64 b9):=cz b2 0;have C4:L3.cell? ⟨b1,1,none⟩ = some (.int .i64 b7):=cz b2 1;have C5:=blk_frozen b2.out 0;have C6:=blk_frozen b2.out 1) | ((with_reducible refine gate_builtin (b:=.append) (xs:=#[.tmp 110,.tmp 112]) rfl ?_);at_builtin;refine Kd.R_append k23 (w0:=w) w.heap.size rfl (.tmp 110) (.tmp 112) 35 23 (.agg #[(.int .i64 0),(.int .i64 0)]) 16 rfl Try.underlying35 info23 rfl (by decide) (by omega) u8 d1 (⟨h1,i8⟩:S23) [.int .i64 h1,.int .i64 i8] (fun k_=>k_ ≠ b6 ∧ k_ ≠ b1) (fun _=>False) rfl (by first | (go_simp;done) | (go_simp;rfl)) ?aP (fun _ hk=>hk.elim) ?aF ?aO ?aB ?aS ?aL ?_;(case aP=>exact k23_mkM _ _ _ (⟨h1,i8⟩:S23));(case aB=>exact (bl HB));(case aF=>exact (fun k_ hk=>⟨Kd.freshB (g:=b6) (o:=.cells #[.int .i64 c0,.int .i64 d0] 23 (0,0)) (by (with_reducible repeat (first | refine blk_drewN ?_ _ | refine blk_drew ?_ | refine blk_alloc ?_ _));refine blk_far ?_ b0.out _;(with_reducible repeat (first | refine blk_drewN ?_ _ | refine blk_drew ?_ | refine blk_alloc ?_ _));refine blk_far ?_ b0.out _;(with_reducible repeat (first | refine blk_drewN ?_ _ | refine blk_drew ?_ | refine blk_alloc ?_ _));exact b3.out) k_ hk,Kd.freshB (g:=b1) (o:=.cells #[.int .i64 h1,.int .i64 i8] 23 (0,0)) (by (with_reducible repeat (first | refine blk_drewN ?_ _ | refine blk_drew ?_ | refine blk_alloc ?_ _));refine blk_put (cs:=#[.int .i64 h1,.int .i64 b7]) ?_ 1 _ rfl;(with_reducible repeat (first | refine blk_drewN ?_ _ | refine blk_drew ?_ | refine blk_alloc ?_ _));refine blk_put (cs:=#[.int .i64 b9,.int .i64 b7]) ?_ 0 _ rfl;(with_reducible repeat (first | refine blk_drewN ?_ _ | refine blk_drew ?_ | refine blk_alloc ?_ _));exact b2.out) k_ hk⟩));(case aO=>exact (by (with_reducible repeat (first | apply Kd.R_alloc | apply Kd.R_drewN | apply Kd.R_drew));exact Kd.R_mono (Kd.R_far (p:=⟨b1,1,none⟩) (Kd.R_far (p:=⟨b1,0,none⟩) (Kd.R_mono b5.out (fun k_ hk=>(⟨hk,hk.2⟩:_ ∧ k_ ≠ b1))) (fun _ hk=>hk.2) (.int .i64 h1)) (fun _ hk=>hk.2) (.int .i64 i8)) (fun _ hk=>⟨hk.1.1,hk.1.2⟩)));(case aS=>exact (below_size (bl HB)));(case aL=>have:=q4.out;omega);intro Q3 U9 ho hb hg hat;rw [← q5.out] at ho;have q7:=A_ ho;replace b3:=A_ (blk_grown (g:=b6) (o:=.cells #[.int .i64 c0,.int .i64 d0] 23 (0,0)) (by (with_reducible repeat (first | refine blk_drewN ?_ _ | refine blk_drew ?_ | refine blk_alloc ?_ _));refine blk_far ?_ b0.out _;(with_reducible repeat (first | refine blk_drewN ?_ _ | refine blk_drew ?_ | refine blk_alloc ?_ _));refine blk_far ?_ b0.out _;(with_reducible repeat (first | refine blk_drewN ?_ _ | refine blk_drew ?_ | refine blk_alloc ?_ _));exact b3.out) hg (Kd.R_away b5.out (fun _ hk=>hk.1)));replace b2:=A_ (blk_grown (g:=b1) (o:=.cells #[.int .i64 h1,.int .i64 i8] 23 (0,0)) (by (with_reducible repeat (first | refine blk_drewN ?_ _ | refine blk_drew ?_ | refine blk_alloc ?_ _));refine blk_put (cs:=#[.int .i64 h1,.int .i64 b7]) ?_ 1 _ rfl;(with_reducible repeat (first | refine blk_drewN ?_ _ | refine blk_drew ?_ | refine blk_alloc ?_ _));refine blk_put (cs:=#[.int .i64 b9,.int .i64 b7]) ?_ 0 _ rfl;(with_reducible repeat (first | refine blk_drewN ?_ _ | refine blk_drew ?_ | refine blk_alloc ?_ _));exact b2.out) hg (Kd.R_away b5.out (fun _ hk=>hk.2)));replace HB:=A_ hb;clear b5;clear ho hb hg hat))
      go_roundg l8
      case measure=>have:=i0.out;have:=j8.out;omega
      case rel=>exact ⟨(H6),(wrap64 (b4 + 1)),(by first | rfl | (simp;done) | (simp [*];done)),H',⟨by have:=i0.out;have:=j8.out;omega⟩,⟨by (with_reducible repeat (first | apply Kd.R_alloc | apply Kd.R_drewN | apply Kd.R_drew));exact Kd.R_mono q7.out (fun _ hk=>trivial)⟩,⟨bl HB⟩⟩
     replace C2:=Bool.eq_false_iff.mpr C2
     subst C2
     rw [if_neg (show ¬ (false = true) by decide)] at H
     by_cases n6:a0 = 1
     ·rw [if_pos n6] at H
      have q8:(a0 == 1) = true:=beq_iff_eq.mpr n6
      have q9:(a0 != 1) = false:=bne_eq_false_iff_eq.mpr n6
      clear n6
      replace H:=Option.bind_eq_some_iff.mp H
      obtain ⟨d2,r0,H⟩:=H
      replace H:(if 0 ≤ b4 then (if b4 < (d2.length:Int) then (if d1.length < 8796093022208 then (numnahref07_Award.l0 l8 a0 l1 a2 d3 (d1 ++ [(⟨(rd_T23 d2 b4).f0,(rd_T23 d2 b4).f1⟩:S23)]) (wrap64 (b4 + 1))) else (none)) else (none)) else (none)) = some r:=H
      have Q4:=A_ r0
      clear r0
      replace H:=gd H
      obtain ⟨L6,H⟩:=H
      have L7:=decide_eq_true L6
      clear L6
      replace H:=gd H
      obtain ⟨L8,H⟩:=H
      have L9:=decide_eq_true L8
      clear L8
      replace H:=gd H
      obtain ⟨M0,H⟩:=H
      have r1:=A_ M0
      clear M0
      obtain ⟨H8,m0⟩:∃ y_:List (S23),y_ = (d1 ++ [(⟨(rd_T23 d2 b4).f0,(rd_T23 d2 b4).f1⟩:S23)]):=⟨_,rfl⟩
      rw [← m0] at H
      have r2:=A_ m0
      clear m0
      have H':=A_ H
      clear H
      go_wp2_with (first | ((with_reducible refine gate_callee (f:=75) rfl ?_);refine gL (some 46) Try.func75 #[.slice (some h6) l1.length c1,.int .i64 a2] ?_;(with_reducible refine (numnahref07_equal.calls l8 _ _ l1 a2 d2 _ ?side1 ?side2 Q4.out).mono ?_);(case side1=>exact cB m7 HB);(case side2=>exact p6.out);rintro e M1 ⟨Q5,rfl,l7,hb⟩;refine ⟨_,rfl,?_⟩;have i9:=A_ (Kd.R_lower (Kd.R_newB (Kd.R_newB (Kd.R_new' l7 (Kd.R_lt (rs b5))) (g:=b6) (o:=.cells #[.int .i64 c0,.int .i64 d0] 23 (0,0)) (kb b3)) (g:=b1) (o:=.cells #[.int .i64 b9,.int .i64 b7] 23 (0,0)) (kb b2)) (below_size (bl HB)));replace b5:=A_ (Kd.R_elder' (rs b5) (Kd.R_base l7) hb);replace b3:=kB b3 hb;replace b2:=kB b2 hb;replace HB:=bB HB hb;(try clear hb);obtain ⟨Q6,H9,I0⟩:=Kd.R_slice i9.out;subst I0;have n7:0 ≤ (b4:Int):=of_decide_eq_true (by first | (with_reducible assumption) | assumption);have n8:b4 < (d2.length:Int):=of_decide_eq_true (by first | (with_reducible assumption) | assumption);obtain ⟨r3,I1,C7,C8⟩:=at_T23 (Kd.R_reads' i9.out).2.2 b4 n7 n8;cases I1;replace n7:=eq_true n7;replace n8:=eq_true n8;have M2:=b8.out;have M3:=b0.out;have C9:M1.cell? ⟨b1,0,none⟩ = some (.int .i64 b9):=cz b2 0;have D0:M1.cell? ⟨b1,1,none⟩ = some (.int .i64 b7):=cz b2 1;have D1:=blk_frozen b2.out 0;have D2:=blk_frozen b2.out 1) | ((with_reducible refine gate_builtin (b:=.append) (xs:=#[.tmp 110,.tmp 112]) rfl ?_);at_builtin;refine Kd.R_append k23 (w0:=w) w.heap.size rfl (.tmp 110) (.tmp 112) 35 23 (.agg #[(.int .i64 0),(.int .i64 0)]) 16 rfl Try.underlying35 info23 rfl (by decide) (by omega) u8 d1 (⟨(rd_T23 d2 b4).f0,(rd_T23 d2 b4).f1⟩:S23) [.int .i64 ((rd_T23 d2 b4).f0),.int .i64 ((rd_T23 d2 b4).f1)] (fun k_=>some k_ ≠ (.slice (some r3) d2.length H9:Value).ownBlock ∧ k_ ≠ b6 ∧ k_ ≠ b1) (fun _=>False) rfl (by first | (go_simp;done) | (go_simp;rfl)) ?aP (fun _ hk=>hk.elim) ?aF ?aO ?aB ?aS ?aL ?_;(case aP=>exact k23_mkM _ _ _ (⟨(rd_T23 d2 b4).f0,(rd_T23 d2 b4).f1⟩:S23));(case aB=>exact (bl HB));(case aF=>exact (fun k_ hk=>⟨Kd.fresh' (Kd.R_lt (by (with_reducible repeat (first | apply Kd.R_alloc | apply Kd.R_drewN | apply Kd.R_drew));exact (Kd.R_mono (Kd.R_far (p:=⟨b1,1,none⟩) (Kd.R_far (p:=⟨b1,0,none⟩) (Kd.R_mono i9.out (fun k_ hk=>(⟨hk,hk.2⟩:_ ∧ k_ ≠ b1))) (fun _ hk=>hk.2) (.int .i64 ((rd_T23 d2 b4).f0))) (fun _ hk=>hk.2) (.int .i64 ((rd_T23 d2 b4).f1))) (fun _ h_=>h_.1)))) k_ hk,Kd.freshB (g:=b6) (o:=.cells #[.int .i64 c0,.int .i64 d0] 23 (0,0)) (by (with_reducible repeat (first | refine blk_drewN ?_ _ | refine blk_drew ?_ | refine blk_alloc ?_ _));refine blk_far ?_ b0.out _;(with_reducible repeat (first | refine blk_drewN ?_ _ | refine blk_drew ?_ | refine blk_alloc ?_ _));refine blk_far ?_ b0.out _;(with_reducible repeat (first | refine blk_drewN ?_ _ | refine blk_drew ?_ | refine blk_alloc ?_ _));exact b3.out) k_ hk,Kd.freshB (g:=b1) (o:=.cells #[.int .i64 ((rd_T23 d2 b4).f0),.int .i64 ((rd_T23 d2 b4).f1)] 23 (0,0)) (by (with_reducible repeat (first | refine blk_drewN ?_ _ | refine blk_drew ?_ | refine blk_alloc ?_ _));refine blk_put (cs:=#[.int .i64 ((rd_T23 d2 b4).f0),.int .i64 b7]) ?_ 1 _ rfl;(with_reducible repeat (first | refine blk_drewN ?_ _ | refine blk_drew ?_ | refine blk_alloc ?_ _));refine blk_put (cs:=#[.int .i64 b9,.int .i64 b7]) ?_ 0 _ rfl;(with_reducible repeat (first | refine blk_drewN ?_ _ | refine blk_drew ?_ | refine blk_alloc ?_ _));exact b2.out) k_ hk⟩));(case aO=>exact (by (with_reducible repeat (first | apply Kd.R_alloc | apply Kd.R_drewN | apply Kd.R_drew));exact Kd.R_mono (Kd.R_far (p:=⟨b1,1,none⟩) (Kd.R_far (p:=⟨b1,0,none⟩) (Kd.R_mono b5.out (fun k_ hk=>(⟨hk,hk.1.2⟩:_ ∧ k_ ≠ b1))) (fun _ hk=>hk.2) (.int .i64 ((rd_T23 d2 b4).f0))) (fun _ hk=>hk.2) (.int .i64 ((rd_T23 d2 b4).f1))) (fun _ hk=>⟨hk.1.2,⟨hk.1.1.1,hk.1.1.2⟩⟩)));(case aS=>exact (below_size (bl HB)));(case aL=>have:=r1.out;omega);intro Q7 V0 ho hb hg hat;rw [← r2.out] at ho;have r4:=A_ ho;replace b3:=A_ (blk_grown (g:=b6) (o:=.cells #[.int .i64 c0,.int .i64 d0] 23 (0,0)) (by (with_reducible repeat (first | refine blk_drewN ?_ _ | refine blk_drew ?_ | refine blk_alloc ?_ _));refine blk_far ?_ b0.out _;(with_reducible repeat (first | refine blk_drewN ?_ _ | refine blk_drew ?_ | refine blk_alloc ?_ _));refine blk_far ?_ b0.out _;(with_reducible repeat (first | refine blk_drewN ?_ _ | refine blk_drew ?_ | refine blk_alloc ?_ _));exact b3.out) hg (Kd.R_away b5.out (fun _ hk=>hk.1.1)));replace b2:=A_ (blk_grown (g:=b1) (o:=.cells #[.int .i64 ((rd_T23 d2 b4).f0),.int .i64 ((rd_T23 d2 b4).f1)] 23 (0,0)) (by (with_reducible repeat (first | refine blk_drewN ?_ _ | refine blk_drew ?_ | refine blk_alloc ?_ _));refine blk_put (cs:=#[.int .i64 ((rd_T23 d2 b4).f0),.int .i64 b7]) ?_ 1 _ rfl;(with_reducible repeat (first | refine blk_drewN ?_ _ | refine blk_drew ?_ | refine blk_alloc ?_ _));refine blk_put (cs:=#[.int .i64 b9,.int .i64 b7]) ?_ 0 _ rfl;(with_reducible repeat (first | refine blk_drewN ?_ _ | refine blk_drew ?_ | refine blk_alloc ?_ _));exact b2.out) hg (Kd.R_away b5.out (fun _ hk=>hk.1.2)));replace i9:=A_ (Kd.R_after (ok:=(fun k_=>k_ ≠ b6 ∧ k_ ≠ b1)) (by (with_reducible repeat (first | apply Kd.R_alloc | apply Kd.R_drewN | apply Kd.R_drew));exact Kd.R_mono (Kd.R_far (p:=⟨b1,1,none⟩) (Kd.R_far (p:=⟨b1,0,none⟩) (Kd.R_mono i9.out (fun k_ hk=>(⟨hk,hk.2⟩:_ ∧ k_ ≠ b1))) (fun _ hk=>hk.2) (.int .i64 ((rd_T23 d2 b4).f0))) (fun _ hk=>hk.2) (.int .i64 ((rd_T23 d2 b4).f1))) (fun _ hk=>⟨⟨hk.1.1.2,hk.1.2⟩,hk.1.1.1.2⟩)) hg hat);replace HB:=A_ hb;clear b5;clear ho hb hg hat))
      go_roundg l8
      case measure=>have:=i0.out;have:=j8.out;omega
      case rel=>exact ⟨(H8),(wrap64 (b4 + 1)),(by first | rfl | (simp;done) | (simp [*];done)),H',⟨by have:=i0.out;have:=j8.out;omega⟩,⟨by (with_reducible repeat (first | apply Kd.R_alloc | apply Kd.R_drewN | apply Kd.R_drew));exact Kd.R_mono r4.out (fun _ hk=>trivial)⟩,⟨bl HB⟩⟩
     rw [if_neg n6] at H
     have q8:(a0 == 1) = false:=beq_eq_false_iff_ne.mpr n6
     have q9:(a0 != 1) = true:=bne_iff_ne.mpr n6
     by_cases n9:a0 = 2
     ·rw [if_pos n9] at H
      have r5:(a0 == 2) = true:=beq_iff_eq.mpr n9
      have r6:(a0 != 2) = false:=bne_eq_false_iff_eq.mpr n9
      clear n9
      replace H:=Option.bind_eq_some_iff.mp H
      obtain ⟨d7,r7,H⟩:=H
      replace H:(if 0 ≤ b4 then (if b4 < (d7.length:Int) then ((numnahref07_Sub.f l8 c0 d0 ((rd_T23 d7 b4).f0) ((rd_T23 d7 b4).f1)).bind fun i1=>(if d1.length < 8796093022208 then (numnahref07_Award.l0 l8 a0 l1 a2 d3 (d1 ++ [(⟨i1.1,i1.2⟩:S23)]) (wrap64 (b4 + 1))) else (none))) else (none)) else (none)) = some r:=H
      have Q8:=A_ r7
      clear r7
      replace H:=gd H
      obtain ⟨M4,H⟩:=H
      have M5:=decide_eq_true M4
      clear M4
      replace H:=gd H
      obtain ⟨M6,H⟩:=H
      have M7:=decide_eq_true M6
      clear M6
      replace H:=Option.bind_eq_some_iff.mp H
      obtain ⟨⟨e3,h2⟩,A410,H⟩:=H
      dsimp only at H
      have Q9:=A_ A410
      clear A410
      replace H:=gd H
      obtain ⟨M8,H⟩:=H
      have r8:=A_ M8
      clear M8
      obtain ⟨I2,m1⟩:∃ y_:List (S23),y_ = (d1 ++ [(⟨e3,h2⟩:S23)]):=⟨_,rfl⟩
      rw [← m1] at H
      have r9:=A_ m1
      clear m1
      have H':=A_ H
      clear H
      try go_wp2
      replace b5:=rD b5
      replace b3:=kD b3
      replace b2:=kD b2
      replace HB:=bD HB
      refine st 11 (fun w'=>w'.cell? ⟨b6,0,none⟩ = some (.int .i64 c0) ∧ w'.cell? ⟨b6,1,none⟩ = some (.int .i64 d0)) [] numnahref07_Award.tab13 numnahref07_Award.bits13 (fun hHeld HT_ HW_=>?_)
      generalize wc.drew = V1 at b5 b3 b2 HB hHeld ⊢
      refine pq 1 54 2 HT_ ?_
      refine pq 2 55 6 HT_ ?_
      refine pq 3 56 14 HT_ ?_
      refine pq 4 57 30 HT_ ?_
      refine pq 6 59 94 HT_ ?_
      refine tq 0 53 95 HT_ HW_ hHeld ?_
      refine oq 5 58 127 HT_ (fun K hK=>?_)
      refine gq Try.func75 #[.slice (some h6) l1.length c1,.int .i64 (wrap64 (d3 - a2))] ?_
      with_reducible refine (numnahref07_equal.calls l8 _ _ l1 (wrap64 (d3 - a2)) d7 _ ?side1 ?side2 Q8.out).mono ?_
      (case side1=>exact cB m7 HB)
      (case side2=>exact p6.out)
      rintro e V2 ⟨R0,rfl,l7,hb⟩
      refine ⟨_,rfl,?_⟩
      have e9:=A_ (Kd.R_lower (Kd.R_newB (Kd.R_newB (Kd.R_new' l7 (Kd.R_lt (rs b5))) (g:=b6) (o:=.cells #[.int .i64 c0,.int .i64 d0] 23 (0,0)) (kb b3)) (g:=b1) (o:=.cells #[.int .i64 b9,.int .i64 b7] 23 (0,0)) (kb b2)) (below_size (bl HB)))
      replace b5:=A_ (Kd.R_elder' (rs b5) (Kd.R_base l7) hb)
      replace b3:=kB b3 hb
      replace b2:=kB b2 hb
      replace HB:=bB HB hb
      (try clear hb)
      obtain ⟨R1,I3,s0⟩:=Kd.R_slice e9.out
      (first | subst s0 | (injection s0 with m8 s1 m9;have s2:=m8.symm;have s3:=m9.symm;clear m8 s1 m9;subst s2;subst s3))
      have o0:0 ≤ (b4:Int):=of_decide_eq_true (by first | (with_reducible assumption) | assumption)
      have o1:b4 < (d7.length:Int):=of_decide_eq_true (by first | (with_reducible assumption) | assumption)
      obtain ⟨s4,I4,D3,D4⟩:=at_T23 (Kd.R_reads' e9.out).2.2 b4 o0 o1
      cases I4
      replace o0:=eq_true o0
      replace o1:=eq_true o1
      refine hz hK (fun hHeld=>?_)
      clear hK K
      refine nq 58 ?_
      refine pq 7 60 255 HT_ ?_
      refine oq 8 61 511 HT_ (fun K hK=>?_)
      refine value_ (w1:=?_) (v:=?_) (by rfl) rfl ?_ ?_
      rotate_left 2
      ·go_simp
       constructor
       ·rfl
       rfl
      refine hK.out _ _ hHeld (fun hHeld=>?_)
      clear hK K
      refine nq 61 ?_
      refine oq 9 62 1023 HT_ (fun K hK=>?_)
      refine gq Try.func31 #[.agg #[.int .i64 c0,.int .i64 d0],.agg #[.int .i64 ((rd_T23 d7 b4).f0),.int .i64 ((rd_T23 d7 b4).f1)]] ?_
      with_reducible refine (numnahref07_Sub.calls l8 c0 d0 ((rd_T23 d7 b4).f0) ((rd_T23 d7 b4).f1) e3 h2 _ Q9.out).mono ?_
      rintro e D5 ⟨rfl,hb⟩
      refine ⟨_,rfl,?_⟩
      replace b5:=rB b5 hb
      replace e9:=rB e9 hb
      replace b3:=kB b3 hb
      replace b2:=kB b2 hb
      replace HB:=bB HB hb
      (try clear hb)
      refine hz hK (fun hHeld=>?_)
      clear hK K
      refine nq 62 ?_
      refine one_ (i:=10) (N:=none) (ba 11 2047) rfl rfl (one_of HT_.out (by kernel_rfl)) (by decide) (fun K hK=>?_)
      have R2:D5.cell? ⟨b1,0,none⟩ = some (.int .i64 b9):=cz b2 0
      have M9:=blk_frozen b2.out 0
      have D6:=b0.out
      have D7:=b8.out
      have R3:D5.cell? ⟨b1,1,none⟩ = some (.int .i64 b7):=cz b2 1
      have N0:=blk_frozen b2.out 1
      have D8:=b0.out
      have D9:=b8.out
      refine skip_ (w1:=?_) (by rfl) rfl ?_ ?_
      rotate_left
      ·go_simp
       rfl
      refine hK.out _ _ ⟨((cell_far (p:=⟨b1,_,none⟩) b0.out _).trans (((cell_far (p:=⟨b1,_,none⟩) b0.out _).trans (hHeld.1)))),((cell_far (p:=⟨b1,_,none⟩) b0.out _).trans (((cell_far (p:=⟨b1,_,none⟩) b0.out _).trans (hHeld.2))))⟩ (fun hHeld=>?_)
      clear hK K
      refine done_ (done_of HT_.out (by kernel_rfl)) ?_
      have N1:=b8.out
      have N2:=b0.out
      have E0:D5.cell? ⟨b1,0,none⟩ = some (.int .i64 b9):=cz b2 0
      have E1:D5.cell? ⟨b1,1,none⟩ = some (.int .i64 b7):=cz b2 1
      have E2:=blk_frozen b2.out 0
      have E3:=blk_frozen b2.out 1
      try go_wp2_with (first | ((with_reducible refine gate_builtin (b:=.append) (xs:=#[.tmp 110,.tmp 112]) rfl ?_);at_builtin;refine Kd.R_append k23 (w0:=w) w.heap.size rfl (.tmp 110) (.tmp 112) 35 23 (.agg #[(.int .i64 0),(.int .i64 0)]) 16 rfl Try.underlying35 info23 rfl (by decide) (by omega) u8 d1 (⟨e3,h2⟩:S23) [.int .i64 e3,.int .i64 h2] (fun k_=>some k_ ≠ (.slice (some s4) d7.length I3:Value).ownBlock ∧ k_ ≠ b6 ∧ k_ ≠ b1) (fun _=>False) rfl (by first | (go_simp;done) | (go_simp;rfl)) ?aP (fun _ hk=>hk.elim) ?aF ?aO ?aB ?aS ?aL ?_;(case aP=>exact k23_mkM _ _ _ (⟨e3,h2⟩:S23));(case aB=>exact (bl HB));(case aF=>exact (fun k_ hk=>⟨Kd.fresh' (Kd.R_lt (by (with_reducible repeat (first | apply Kd.R_alloc | apply Kd.R_drewN | apply Kd.R_drew));exact (Kd.R_mono (Kd.R_far (p:=⟨b1,1,none⟩) (Kd.R_far (p:=⟨b1,0,none⟩) (Kd.R_mono e9.out (fun k_ hk=>(⟨hk,hk.2⟩:_ ∧ k_ ≠ b1))) (fun _ hk=>hk.2) (.int .i64 e3)) (fun _ hk=>hk.2) (.int .i64 h2)) (fun _ h_=>h_.1)))) k_ hk,Kd.freshB (g:=b6) (o:=.cells #[.int .i64 c0,.int .i64 d0] 23 (0,0)) (by (with_reducible repeat (first | refine blk_drewN ?_ _ | refine blk_drew ?_ | refine blk_alloc ?_ _));refine blk_far ?_ b0.out _;(with_reducible repeat (first | refine blk_drewN ?_ _ | refine blk_drew ?_ | refine blk_alloc ?_ _));refine blk_far ?_ b0.out _;(with_reducible repeat (first | refine blk_drewN ?_ _ | refine blk_drew ?_ | refine blk_alloc ?_ _));exact b3.out) k_ hk,Kd.freshB (g:=b1) (o:=.cells #[.int .i64 e3,.int .i64 h2] 23 (0,0)) (by (with_reducible repeat (first | refine blk_drewN ?_ _ | refine blk_drew ?_ | refine blk_alloc ?_ _));refine blk_put (cs:=#[.int .i64 e3,.int .i64 b7]) ?_ 1 _ rfl;(with_reducible repeat (first | refine blk_drewN ?_ _ | refine blk_drew ?_ | refine blk_alloc ?_ _));refine blk_put (cs:=#[.int .i64 b9,.int .i64 b7]) ?_ 0 _ rfl;(with_reducible repeat (first | refine blk_drewN ?_ _ | refine blk_drew ?_ | refine blk_alloc ?_ _));exact b2.out) k_ hk⟩));(case aO=>exact (by (with_reducible repeat (first | apply Kd.R_alloc | apply Kd.R_drewN | apply Kd.R_drew));exact Kd.R_mono (Kd.R_far (p:=⟨b1,1,none⟩) (Kd.R_far (p:=⟨b1,0,none⟩) (Kd.R_mono b5.out (fun k_ hk=>(⟨hk,hk.1.2⟩:_ ∧ k_ ≠ b1))) (fun _ hk=>hk.2) (.int .i64 e3)) (fun _ hk=>hk.2) (.int .i64 h2)) (fun _ hk=>⟨hk.1.2,⟨hk.1.1.1,hk.1.1.2⟩⟩)));(case aS=>exact (below_size (bl HB)));(case aL=>have:=r8.out;omega);intro R4 V3 ho hb hg hat;rw [← r9.out] at ho;have s5:=A_ ho;replace b3:=A_ (blk_grown (g:=b6) (o:=.cells #[.int .i64 c0,.int .i64 d0] 23 (0,0)) (by (with_reducible repeat (first | refine blk_drewN ?_ _ | refine blk_drew ?_ | refine blk_alloc ?_ _));refine blk_far ?_ b0.out _;(with_reducible repeat (first | refine blk_drewN ?_ _ | refine blk_drew ?_ | refine blk_alloc ?_ _));refine blk_far ?_ b0.out _;(with_reducible repeat (first | refine blk_drewN ?_ _ | refine blk_drew ?_ | refine blk_alloc ?_ _));exact b3.out) hg (Kd.R_away b5.out (fun _ hk=>hk.1.1)));replace b2:=A_ (blk_grown (g:=b1) (o:=.cells #[.int .i64 e3,.int .i64 h2] 23 (0,0)) (by (with_reducible repeat (first | refine blk_drewN ?_ _ | refine blk_drew ?_ | refine blk_alloc ?_ _));refine blk_put (cs:=#[.int .i64 e3,.int .i64 b7]) ?_ 1 _ rfl;(with_reducible repeat (first | refine blk_drewN ?_ _ | refine blk_drew ?_ | refine blk_alloc ?_ _));refine blk_put (cs:=#[.int .i64 b9,.int .i64 b7]) ?_ 0 _ rfl;(with_reducible repeat (first | refine blk_drewN ?_ _ | refine blk_drew ?_ | refine blk_alloc ?_ _));exact b2.out) hg (Kd.R_away b5.out (fun _ hk=>hk.1.2)));replace e9:=A_ (Kd.R_after (ok:=(fun k_=>k_ ≠ b6 ∧ k_ ≠ b1)) (by (with_reducible repeat (first | apply Kd.R_alloc | apply Kd.R_drewN | apply Kd.R_drew));exact Kd.R_mono (Kd.R_far (p:=⟨b1,1,none⟩) (Kd.R_far (p:=⟨b1,0,none⟩) (Kd.R_mono e9.out (fun k_ hk=>(⟨hk,hk.2⟩:_ ∧ k_ ≠ b1))) (fun _ hk=>hk.2) (.int .i64 e3)) (fun _ hk=>hk.2) (.int .i64 h2)) (fun _ hk=>⟨⟨hk.1.1.2,hk.1.2⟩,hk.1.1.1.2⟩)) hg hat);replace HB:=A_ hb;clear b5;clear ho hb hg hat))
      go_roundg l8
      case measure=>have:=i0.out;have:=j8.out;omega
      case rel=>exact ⟨(I2),(wrap64 (b4 + 1)),(by first | rfl | (simp;done) | (simp [*];done)),H',⟨by have:=i0.out;have:=j8.out;omega⟩,⟨by (with_reducible repeat (first | apply Kd.R_alloc | apply Kd.R_drewN | apply Kd.R_drew));exact Kd.R_mono s5.out (fun _ hk=>trivial)⟩,⟨bl HB⟩⟩
     rw [if_neg n9] at H
     have r5:(a0 == 2) = false:=beq_eq_false_iff_ne.mpr n9
     have r6:(a0 != 2) = true:=bne_iff_ne.mpr n9
     have o2:=A_ H
     clear H
     go_upto_region 14 with (fail)
     go_cut [63] (fun R5 wc=>∃ (kq:Nat) (h9:Bool),R5 = .bool h9 ∧ Aside0 (numnahref07_Award.j2 kq a0 l1 a2 d3 d1 b4 h9 c0 d0 b9 b7 = some r) ∧ Aside0 (kq ≤ l8) ∧ Aside0 (Kd.R k23 23 wc w.heap.size (fun k_=>k_ ≠ b6 ∧ k_ ≠ b1) u8 d1) ∧ Aside0 (wc.heap[b6]? = some (.cells #[.int .i64 c0,.int .i64 d0] 23 (0,0))) ∧ Aside0 (wc.heap[b1]? = some (.cells #[.int .i64 b9,.int .i64 b7] 23 (0,0))) ∧ Aside0 (Below w.heap.size w wc))
     case first =>
      have H:=o2.out
      clear o2
      by_cases p7:a0 ≥ 3
      case neg =>
       rw [if_neg p7] at H
       have j5:=decide_eq_false p7
       clear p7
       (first | rw [j5] | (simp only [i64_w,i32_w];rw [j5]) | skip)
       have H':=A_ H
       clear H
       go_wp2
       go_meet
       case rel=>exact ⟨_,(false),(by first | rfl | (simp;done) | (simp [*];done)),H',⟨by have:=i0.out;have:=j8.out;first | omega | exact Nat.le_refl _⟩,⟨by (with_reducible repeat (first | apply Kd.R_alloc | apply Kd.R_drewN | apply Kd.R_drew));exact b5.out⟩,⟨by (with_reducible repeat (first | refine blk_drewN ?_ _ | refine blk_drew ?_ | refine blk_alloc ?_ _));exact b3.out⟩,⟨by (with_reducible repeat (first | refine blk_drewN ?_ _ | refine blk_drew ?_ | refine blk_alloc ?_ _));exact b2.out⟩,⟨bl HB⟩⟩
      rw [if_pos p7] at H
      have j5:=decide_eq_true p7
      clear p7
      (first | rw [j5] | (simp only [i64_w,i32_w];rw [j5]) | skip)
      have H':=A_ H
      clear H
      go_wp2
      go_meet
      case rel=>exact ⟨_,(decide ((wrap64 (2 * a2)) ≤ d3)),(by first | rfl | (simp;done) | (simp [*];done)),H',⟨by have:=i0.out;have:=j8.out;first | omega | exact Nat.le_refl _⟩,⟨by (with_reducible repeat (first | apply Kd.R_alloc | apply Kd.R_drewN | apply Kd.R_drew));exact b5.out⟩,⟨by (with_reducible repeat (first | refine blk_drewN ?_ _ | refine blk_drew ?_ | refine blk_alloc ?_ _));exact b3.out⟩,⟨by (with_reducible repeat (first | refine blk_drewN ?_ _ | refine blk_drew ?_ | refine blk_alloc ?_ _));exact b2.out⟩,⟨bl HB⟩⟩
     case rest =>
      clear o2
      obtain ⟨kq,h9,rfl,HA,j7,b5,b3,b2,HB⟩:=hcut
      cases kq with
      | zero=>exact absurd HA.out (by simp [numnahref07_Award.j2])
      | succ d4 =>
       have H:=HA.out
       clear HA
       simp only [numnahref07_Award.j2] at H
       by_cases E4:h9 = true
       ·subst E4
        rw [if_pos rfl] at H
        replace H:=Option.bind_eq_some_iff.mp H
        obtain ⟨d8,s6,H⟩:=H
        replace H:(if 0 ≤ b4 then (if b4 < (d8.length:Int) then ((numnahref07_Half.f d4 ((rd_T23 d8 b4).f0) ((rd_T23 d8 b4).f1)).bind fun i2=>(if d1.length < 8796093022208 then (numnahref07_Award.l0 d4 a0 l1 a2 d3 (d1 ++ [(⟨i2.1,i2.2⟩:S23)]) (wrap64 (b4 + 1))) else (none))) else (none)) else (none)) = some r:=H
        have R6:=A_ s6
        clear s6
        replace H:=gd H
        obtain ⟨N3,H⟩:=H
        have N4:=decide_eq_true N3
        clear N3
        replace H:=gd H
        obtain ⟨N5,H⟩:=H
        have N6:=decide_eq_true N5
        clear N5
        replace H:=Option.bind_eq_some_iff.mp H
        obtain ⟨⟨e4,h3⟩,A580,H⟩:=H
        dsimp only at H
        have R7:=A_ A580
        clear A580
        replace H:=gd H
        obtain ⟨N7,H⟩:=H
        have s7:=A_ N7
        clear N7
        obtain ⟨I5,m2⟩:∃ y_:List (S23),y_ = (d1 ++ [(⟨e4,h3⟩:S23)]):=⟨_,rfl⟩
        rw [← m2] at H
        have s8:=A_ m2
        clear m2
        have H':=A_ H
        clear H
        go_wp2_with (first | ((with_reducible refine gate_callee (f:=75) rfl ?_);refine gL (some 75) Try.func75 #[.slice (some h6) l1.length c1,.int .i64 (wrap64 (2 * a2))] ?_;(with_reducible refine (numnahref07_equal.calls d4 _ _ l1 (wrap64 (2 * a2)) d8 _ ?side1 ?side2 R6.out).mono ?_);(case side1=>exact cB m7 HB);(case side2=>exact p6.out);rintro e V4 ⟨R8,rfl,l7,hb⟩;refine ⟨_,rfl,?_⟩;have h0:=A_ (Kd.R_lower (Kd.R_newB (Kd.R_newB (Kd.R_new' l7 (Kd.R_lt (rs b5))) (g:=b6) (o:=.cells #[.int .i64 c0,.int .i64 d0] 23 (0,0)) (kb b3)) (g:=b1) (o:=.cells #[.int .i64 b9,.int .i64 b7] 23 (0,0)) (kb b2)) (below_size (bl HB)));replace b5:=A_ (Kd.R_elder' (rs b5) (Kd.R_base l7) hb);replace b3:=kB b3 hb;replace b2:=kB b2 hb;replace HB:=bB HB hb;(try clear hb);obtain ⟨R9,I6,I7⟩:=Kd.R_slice h0.out;subst I7;have o3:0 ≤ (b4:Int):=of_decide_eq_true (by first | (with_reducible assumption) | assumption);have o4:b4 < (d8.length:Int):=of_decide_eq_true (by first | (with_reducible assumption) | assumption);obtain ⟨s9,I8,E5,E6⟩:=at_T23 (Kd.R_reads' h0.out).2.2 b4 o3 o4;cases I8;replace o3:=eq_true o3;replace o4:=eq_true o4) | ((with_reducible refine gate_callee (f:=67) rfl ?_);refine gL (some 79) Try.func67 #[.agg #[.int .i64 ((rd_T23 d8 b4).f0),.int .i64 ((rd_T23 d8 b4).f1)]] ?_;(with_reducible refine (numnahref07_Half.calls d4 ((rd_T23 d8 b4).f0) ((rd_T23 d8 b4).f1) e4 h3 _ R7.out).mono ?_);rintro e N8 ⟨rfl,hb⟩;refine ⟨_,rfl,?_⟩;replace b5:=rB b5 hb;replace h0:=rB h0 hb;replace b3:=kB b3 hb;replace b2:=kB b2 hb;replace HB:=bB HB hb;(try clear hb);have N9:=b8.out;have O0:=b0.out;have E7:N8.cell? ⟨b1,0,none⟩ = some (.int .i64 b9):=cz b2 0;have E8:N8.cell? ⟨b1,1,none⟩ = some (.int .i64 b7):=cz b2 1;have E9:=blk_frozen b2.out 0;have F0:=blk_frozen b2.out 1) | ((with_reducible refine gate_builtin (b:=.append) (xs:=#[.tmp 110,.tmp 112]) rfl ?_);at_builtin;refine Kd.R_append k23 (w0:=w) w.heap.size rfl (.tmp 110) (.tmp 112) 35 23 (.agg #[(.int .i64 0),(.int .i64 0)]) 16 rfl Try.underlying35 info23 rfl (by decide) (by omega) u8 d1 (⟨e4,h3⟩:S23) [.int .i64 e4,.int .i64 h3] (fun k_=>some k_ ≠ (.slice (some s9) d8.length I6:Value).ownBlock ∧ k_ ≠ b6 ∧ k_ ≠ b1) (fun _=>False) rfl (by first | (go_simp;done) | (go_simp;rfl)) ?aP (fun _ hk=>hk.elim) ?aF ?aO ?aB ?aS ?aL ?_;(case aP=>exact k23_mkM _ _ _ (⟨e4,h3⟩:S23));(case aB=>exact (bl HB));(case aF=>exact (fun k_ hk=>⟨Kd.fresh' (Kd.R_lt (by (with_reducible repeat (first | apply Kd.R_alloc | apply Kd.R_drewN | apply Kd.R_drew));exact (Kd.R_mono (Kd.R_far (p:=⟨b1,1,none⟩) (Kd.R_far (p:=⟨b1,0,none⟩) (Kd.R_mono h0.out (fun k_ hk=>(⟨hk,hk.2⟩:_ ∧ k_ ≠ b1))) (fun _ hk=>hk.2) (.int .i64 e4)) (fun _ hk=>hk.2) (.int .i64 h3)) (fun _ h_=>h_.1)))) k_ hk,Kd.freshB (g:=b6) (o:=.cells #[.int .i64 c0,.int .i64 d0] 23 (0,0)) (by (with_reducible repeat (first | refine blk_drewN ?_ _ | refine blk_drew ?_ | refine blk_alloc ?_ _));refine blk_far ?_ b0.out _;(with_reducible repeat (first | refine blk_drewN ?_ _ | refine blk_drew ?_ | refine blk_alloc ?_ _));refine blk_far ?_ b0.out _;(with_reducible repeat (first | refine blk_drewN ?_ _ | refine blk_drew ?_ | refine blk_alloc ?_ _));exact b3.out) k_ hk,Kd.freshB (g:=b1) (o:=.cells #[.int .i64 e4,.int .i64 h3] 23 (0,0)) (by (with_reducible repeat (first | refine blk_drewN ?_ _ | refine blk_drew ?_ | refine blk_alloc ?_ _));refine blk_put (cs:=#[.int .i64 e4,.int .i64 b7]) ?_ 1 _ rfl;(with_reducible repeat (first | refine blk_drewN ?_ _ | refine blk_drew ?_ | refine blk_alloc ?_ _));refine blk_put (cs:=#[.int .i64 b9,.int .i64 b7]) ?_ 0 _ rfl;(with_reducible repeat (first | refine blk_drewN ?_ _ | refine blk_drew ?_ | refine blk_alloc ?_ _));exact b2.out) k_ hk⟩));(case aO=>exact (by (with_reducible repeat (first | apply Kd.R_alloc | apply Kd.R_drewN | apply Kd.R_drew));exact Kd.R_mono (Kd.R_far (p:=⟨b1,1,none⟩) (Kd.R_far (p:=⟨b1,0,none⟩) (Kd.R_mono b5.out (fun k_ hk=>(⟨hk,hk.1.2⟩:_ ∧ k_ ≠ b1))) (fun _ hk=>hk.2) (.int .i64 e4)) (fun _ hk=>hk.2) (.int .i64 h3)) (fun _ hk=>⟨hk.1.2,⟨hk.1.1.1,hk.1.1.2⟩⟩)));(case aS=>exact (below_size (bl HB)));(case aL=>have:=s7.out;omega);intro S0 V5 ho hb hg hat;rw [← s8.out] at ho;have t0:=A_ ho;replace b3:=A_ (blk_grown (g:=b6) (o:=.cells #[.int .i64 c0,.int .i64 d0] 23 (0,0)) (by (with_reducible repeat (first | refine blk_drewN ?_ _ | refine blk_drew ?_ | refine blk_alloc ?_ _));refine blk_far ?_ b0.out _;(with_reducible repeat (first | refine blk_drewN ?_ _ | refine blk_drew ?_ | refine blk_alloc ?_ _));refine blk_far ?_ b0.out _;(with_reducible repeat (first | refine blk_drewN ?_ _ | refine blk_drew ?_ | refine blk_alloc ?_ _));exact b3.out) hg (Kd.R_away b5.out (fun _ hk=>hk.1.1)));replace b2:=A_ (blk_grown (g:=b1) (o:=.cells #[.int .i64 e4,.int .i64 h3] 23 (0,0)) (by (with_reducible repeat (first | refine blk_drewN ?_ _ | refine blk_drew ?_ | refine blk_alloc ?_ _));refine blk_put (cs:=#[.int .i64 e4,.int .i64 b7]) ?_ 1 _ rfl;(with_reducible repeat (first | refine blk_drewN ?_ _ | refine blk_drew ?_ | refine blk_alloc ?_ _));refine blk_put (cs:=#[.int .i64 b9,.int .i64 b7]) ?_ 0 _ rfl;(with_reducible repeat (first | refine blk_drewN ?_ _ | refine blk_drew ?_ | refine blk_alloc ?_ _));exact b2.out) hg (Kd.R_away b5.out (fun _ hk=>hk.1.2)));replace h0:=A_ (Kd.R_after (ok:=(fun k_=>k_ ≠ b6 ∧ k_ ≠ b1)) (by (with_reducible repeat (first | apply Kd.R_alloc | apply Kd.R_drewN | apply Kd.R_drew));exact Kd.R_mono (Kd.R_far (p:=⟨b1,1,none⟩) (Kd.R_far (p:=⟨b1,0,none⟩) (Kd.R_mono h0.out (fun k_ hk=>(⟨hk,hk.2⟩:_ ∧ k_ ≠ b1))) (fun _ hk=>hk.2) (.int .i64 e4)) (fun _ hk=>hk.2) (.int .i64 h3)) (fun _ hk=>⟨⟨hk.1.1.2,hk.1.2⟩,hk.1.1.1.2⟩)) hg hat);replace HB:=A_ hb;clear b5;clear ho hb hg hat))
        go_roundg d4
        case measure=>have:=i0.out;have:=j8.out;have:=j7.out;omega
        case rel=>exact ⟨(I5),(wrap64 (b4 + 1)),(by first | rfl | (simp;done) | (simp [*];done)),H',⟨by have:=i0.out;have:=j8.out;have:=j7.out;omega⟩,⟨by (with_reducible repeat (first | apply Kd.R_alloc | apply Kd.R_drewN | apply Kd.R_drew));exact Kd.R_mono t0.out (fun _ hk=>trivial)⟩,⟨bl HB⟩⟩
       replace E4:=Bool.eq_false_iff.mpr E4
       subst E4
       rw [if_neg (show ¬ (false = true) by decide)] at H
       by_cases o5:a0 = 3
       ·rw [if_pos o5] at H
        have t1:(a0 == 3) = true:=beq_iff_eq.mpr o5
        have t2:(a0 != 3) = false:=bne_eq_false_iff_eq.mpr o5
        clear o5
        replace H:=Option.bind_eq_some_iff.mp H
        obtain ⟨d9,t3,H⟩:=H
        replace H:(if 0 ≤ b4 then (if b4 < (d9.length:Int) then ((numnahref07_Half.f d4 ((rd_T23 d9 b4).f0) ((rd_T23 d9 b4).f1)).bind fun i3=>((numnahref07_Sub.f d4 c0 d0 i3.1 i3.2).bind fun i4=>(if d1.length < 8796093022208 then (numnahref07_Award.l0 d4 a0 l1 a2 d3 (d1 ++ [(⟨i4.1,i4.2⟩:S23)]) (wrap64 (b4 + 1))) else (none)))) else (none)) else (none)) = some r:=H
        have S1:=A_ t3
        clear t3
        replace H:=gd H
        obtain ⟨O1,H⟩:=H
        have O2:=decide_eq_true O1
        clear O1
        replace H:=gd H
        obtain ⟨O3,H⟩:=H
        have O4:=decide_eq_true O3
        clear O3
        replace H:=Option.bind_eq_some_iff.mp H
        obtain ⟨⟨o6,o7⟩,A700,H⟩:=H
        dsimp only at H
        have A0:=A_ A700
        clear A700
        replace H:=Option.bind_eq_some_iff.mp H
        obtain ⟨⟨e5,h4⟩,A710,H⟩:=H
        dsimp only at H
        have S2:=A_ A710
        clear A710
        replace H:=gd H
        obtain ⟨O5,H⟩:=H
        have t4:=A_ O5
        clear O5
        obtain ⟨I9,m3⟩:∃ y_:List (S23),y_ = (d1 ++ [(⟨e5,h4⟩:S23)]):=⟨_,rfl⟩
        rw [← m3] at H
        have t5:=A_ m3
        clear m3
        have H':=A_ H
        clear H
        try go_wp2
        replace b5:=rD b5
        replace b3:=kD b3
        replace b2:=kD b2
        replace HB:=bD HB
        refine st 13 (fun w'=>w'.cell? ⟨b6,0,none⟩ = some (.int .i64 c0) ∧ w'.cell? ⟨b6,1,none⟩ = some (.int .i64 d0)) [] numnahref07_Award.tab17 numnahref07_Award.bits17 (fun hHeld HT_ HW_=>?_)
        generalize wc.drew = V6 at b5 b3 b2 HB hHeld ⊢
        refine pq 1 84 2 HT_ ?_
        refine pq 2 85 6 HT_ ?_
        refine pq 3 86 14 HT_ ?_
        refine pq 4 87 30 HT_ ?_
        refine pq 5 88 62 HT_ ?_
        refine pq 7 90 190 HT_ ?_
        refine tq 0 83 191 HT_ HW_ hHeld ?_
        refine oq 6 89 255 HT_ (fun K hK=>?_)
        refine gq Try.func75 #[.slice (some h6) l1.length c1,.int .i64 (wrap64 (2 * (wrap64 (d3 - a2))))] ?_
        with_reducible refine (numnahref07_equal.calls d4 _ _ l1 (wrap64 (2 * (wrap64 (d3 - a2)))) d9 _ ?side1 ?side2 S1.out).mono ?_
        (case side1=>exact cB m7 HB)
        (case side2=>exact p6.out)
        rintro e V7 ⟨S3,rfl,l7,hb⟩
        refine ⟨_,rfl,?_⟩
        have e1:=A_ (Kd.R_lower (Kd.R_newB (Kd.R_newB (Kd.R_new' l7 (Kd.R_lt (rs b5))) (g:=b6) (o:=.cells #[.int .i64 c0,.int .i64 d0] 23 (0,0)) (kb b3)) (g:=b1) (o:=.cells #[.int .i64 b9,.int .i64 b7] 23 (0,0)) (kb b2)) (below_size (bl HB)))
        replace b5:=A_ (Kd.R_elder' (rs b5) (Kd.R_base l7) hb)
        replace b3:=kB b3 hb
        replace b2:=kB b2 hb
        replace HB:=bB HB hb
        (try clear hb)
        obtain ⟨S4,J0,t6⟩:=Kd.R_slice e1.out
        (first | subst t6 | (injection t6 with m8 s1 m9;have s2:=m8.symm;have s3:=m9.symm;clear m8 s1 m9;subst s2;subst s3))
        have o8:0 ≤ (b4:Int):=of_decide_eq_true (by first | (with_reducible assumption) | assumption)
        have o9:b4 < (d9.length:Int):=of_decide_eq_true (by first | (with_reducible assumption) | assumption)
        obtain ⟨t7,J1,F1,F2⟩:=at_T23 (Kd.R_reads' e1.out).2.2 b4 o8 o9
        cases J1
        replace o8:=eq_true o8
        replace o9:=eq_true o9
        refine hz hK (fun hHeld=>?_)
        clear hK K
        refine nq 89 ?_
        refine pq 8 91 511 HT_ ?_
        refine oq 9 92 1023 HT_ (fun K hK=>?_)
        refine value_ (w1:=?_) (v:=?_) (by rfl) rfl ?_ ?_
        rotate_left 2
        ·go_simp
         constructor
         ·rfl
         rfl
        refine hK.out _ _ hHeld (fun hHeld=>?_)
        clear hK K
        refine nq 92 ?_
        refine oq 10 93 2047 HT_ (fun K hK=>?_)
        refine gq Try.func67 #[.agg #[.int .i64 ((rd_T23 d9 b4).f0),.int .i64 ((rd_T23 d9 b4).f1)]] ?_
        with_reducible refine (numnahref07_Half.calls d4 ((rd_T23 d9 b4).f0) ((rd_T23 d9 b4).f1) o6 o7 _ A0.out).mono ?_
        rintro e V8 ⟨rfl,hb⟩
        refine ⟨_,rfl,?_⟩
        replace b5:=rB b5 hb
        replace e1:=rB e1 hb
        replace b3:=kB b3 hb
        replace b2:=kB b2 hb
        replace HB:=bB HB hb
        (try clear hb)
        refine hz hK (fun hHeld=>?_)
        clear hK K
        refine nq 93 ?_
        refine oq 11 94 4095 HT_ (fun K hK=>?_)
        refine gq Try.func31 #[.agg #[.int .i64 c0,.int .i64 d0],.agg #[.int .i64 o6,.int .i64 o7]] ?_
        with_reducible refine (numnahref07_Sub.calls d4 c0 d0 o6 o7 e5 h4 _ S2.out).mono ?_
        rintro e F3 ⟨rfl,hb⟩
        refine ⟨_,rfl,?_⟩
        replace b5:=rB b5 hb
        replace e1:=rB e1 hb
        replace b3:=kB b3 hb
        replace b2:=kB b2 hb
        replace HB:=bB HB hb
        (try clear hb)
        refine hz hK (fun hHeld=>?_)
        clear hK K
        refine nq 94 ?_
        refine one_ (i:=12) (N:=none) (ba 13 8191) rfl rfl (one_of HT_.out (by kernel_rfl)) (by decide) (fun K hK=>?_)
        have S5:F3.cell? ⟨b1,0,none⟩ = some (.int .i64 b9):=cz b2 0
        have O6:=blk_frozen b2.out 0
        have F4:=b0.out
        have F5:=b8.out
        have S6:F3.cell? ⟨b1,1,none⟩ = some (.int .i64 b7):=cz b2 1
        have O7:=blk_frozen b2.out 1
        have F6:=b0.out
        have F7:=b8.out
        refine skip_ (w1:=?_) (by rfl) rfl ?_ ?_
        rotate_left
        ·go_simp
         rfl
        refine hK.out _ _ ⟨((cell_far (p:=⟨b1,_,none⟩) b0.out _).trans (((cell_far (p:=⟨b1,_,none⟩) b0.out _).trans (hHeld.1)))),((cell_far (p:=⟨b1,_,none⟩) b0.out _).trans (((cell_far (p:=⟨b1,_,none⟩) b0.out _).trans (hHeld.2))))⟩ (fun hHeld=>?_)
        clear hK K
        refine done_ (done_of HT_.out (by kernel_rfl)) ?_
        have O8:=b8.out
        have O9:=b0.out
        have F8:F3.cell? ⟨b1,0,none⟩ = some (.int .i64 b9):=cz b2 0
        have F9:F3.cell? ⟨b1,1,none⟩ = some (.int .i64 b7):=cz b2 1
        have G0:=blk_frozen b2.out 0
        have G1:=blk_frozen b2.out 1
        try go_wp2_with (first | ((with_reducible refine gate_builtin (b:=.append) (xs:=#[.tmp 110,.tmp 112]) rfl ?_);at_builtin;refine Kd.R_append k23 (w0:=w) w.heap.size rfl (.tmp 110) (.tmp 112) 35 23 (.agg #[(.int .i64 0),(.int .i64 0)]) 16 rfl Try.underlying35 info23 rfl (by decide) (by omega) u8 d1 (⟨e5,h4⟩:S23) [.int .i64 e5,.int .i64 h4] (fun k_=>some k_ ≠ (.slice (some t7) d9.length J0:Value).ownBlock ∧ k_ ≠ b6 ∧ k_ ≠ b1) (fun _=>False) rfl (by first | (go_simp;done) | (go_simp;rfl)) ?aP (fun _ hk=>hk.elim) ?aF ?aO ?aB ?aS ?aL ?_;(case aP=>exact k23_mkM _ _ _ (⟨e5,h4⟩:S23));(case aB=>exact (bl HB));(case aF=>exact (fun k_ hk=>⟨Kd.fresh' (Kd.R_lt (by (with_reducible repeat (first | apply Kd.R_alloc | apply Kd.R_drewN | apply Kd.R_drew));exact (Kd.R_mono (Kd.R_far (p:=⟨b1,1,none⟩) (Kd.R_far (p:=⟨b1,0,none⟩) (Kd.R_mono e1.out (fun k_ hk=>(⟨hk,hk.2⟩:_ ∧ k_ ≠ b1))) (fun _ hk=>hk.2) (.int .i64 e5)) (fun _ hk=>hk.2) (.int .i64 h4)) (fun _ h_=>h_.1)))) k_ hk,Kd.freshB (g:=b6) (o:=.cells #[.int .i64 c0,.int .i64 d0] 23 (0,0)) (by (with_reducible repeat (first | refine blk_drewN ?_ _ | refine blk_drew ?_ | refine blk_alloc ?_ _));refine blk_far ?_ b0.out _;(with_reducible repeat (first | refine blk_drewN ?_ _ | refine blk_drew ?_ | refine blk_alloc ?_ _));refine blk_far ?_ b0.out _;(with_reducible repeat (first | refine blk_drewN ?_ _ | refine blk_drew ?_ | refine blk_alloc ?_ _));exact b3.out) k_ hk,Kd.freshB (g:=b1) (o:=.cells #[.int .i64 e5,.int .i64 h4] 23 (0,0)) (by (with_reducible repeat (first | refine blk_drewN ?_ _ | refine blk_drew ?_ | refine blk_alloc ?_ _));refine blk_put (cs:=#[.int .i64 e5,.int .i64 b7]) ?_ 1 _ rfl;(with_reducible repeat (first | refine blk_drewN ?_ _ | refine blk_drew ?_ | refine blk_alloc ?_ _));refine blk_put (cs:=#[.int .i64 b9,.int .i64 b7]) ?_ 0 _ rfl;(with_reducible repeat (first | refine blk_drewN ?_ _ | refine blk_drew ?_ | refine blk_alloc ?_ _));exact b2.out) k_ hk⟩));(case aO=>exact (by (with_reducible repeat (first | apply Kd.R_alloc | apply Kd.R_drewN | apply Kd.R_drew));exact Kd.R_mono (Kd.R_far (p:=⟨b1,1,none⟩) (Kd.R_far (p:=⟨b1,0,none⟩) (Kd.R_mono b5.out (fun k_ hk=>(⟨hk,hk.1.2⟩:_ ∧ k_ ≠ b1))) (fun _ hk=>hk.2) (.int .i64 e5)) (fun _ hk=>hk.2) (.int .i64 h4)) (fun _ hk=>⟨hk.1.2,⟨hk.1.1.1,hk.1.1.2⟩⟩)));(case aS=>exact (below_size (bl HB)));(case aL=>have:=t4.out;omega);intro S7 V9 ho hb hg hat;rw [← t5.out] at ho;have t8:=A_ ho;replace b3:=A_ (blk_grown (g:=b6) (o:=.cells #[.int .i64 c0,.int .i64 d0] 23 (0,0)) (by (with_reducible repeat (first | refine blk_drewN ?_ _ | refine blk_drew ?_ | refine blk_alloc ?_ _));refine blk_far ?_ b0.out _;(with_reducible repeat (first | refine blk_drewN ?_ _ | refine blk_drew ?_ | refine blk_alloc ?_ _));refine blk_far ?_ b0.out _;(with_reducible repeat (first | refine blk_drewN ?_ _ | refine blk_drew ?_ | refine blk_alloc ?_ _));exact b3.out) hg (Kd.R_away b5.out (fun _ hk=>hk.1.1)));replace b2:=A_ (blk_grown (g:=b1) (o:=.cells #[.int .i64 e5,.int .i64 h4] 23 (0,0)) (by (with_reducible repeat (first | refine blk_drewN ?_ _ | refine blk_drew ?_ | refine blk_alloc ?_ _));refine blk_put (cs:=#[.int .i64 e5,.int .i64 b7]) ?_ 1 _ rfl;(with_reducible repeat (first | refine blk_drewN ?_ _ | refine blk_drew ?_ | refine blk_alloc ?_ _));refine blk_put (cs:=#[.int .i64 b9,.int .i64 b7]) ?_ 0 _ rfl;(with_reducible repeat (first | refine blk_drewN ?_ _ | refine blk_drew ?_ | refine blk_alloc ?_ _));exact b2.out) hg (Kd.R_away b5.out (fun _ hk=>hk.1.2)));replace e1:=A_ (Kd.R_after (ok:=(fun k_=>k_ ≠ b6 ∧ k_ ≠ b1)) (by (with_reducible repeat (first | apply Kd.R_alloc | apply Kd.R_drewN | apply Kd.R_drew));exact Kd.R_mono (Kd.R_far (p:=⟨b1,1,none⟩) (Kd.R_far (p:=⟨b1,0,none⟩) (Kd.R_mono e1.out (fun k_ hk=>(⟨hk,hk.2⟩:_ ∧ k_ ≠ b1))) (fun _ hk=>hk.2) (.int .i64 e5)) (fun _ hk=>hk.2) (.int .i64 h4)) (fun _ hk=>⟨⟨hk.1.1.2,hk.1.2⟩,hk.1.1.1.2⟩)) hg hat);replace HB:=A_ hb;clear b5;clear ho hb hg hat))
        go_roundg d4
        case measure=>have:=i0.out;have:=j8.out;have:=j7.out;omega
        case rel=>exact ⟨(I9),(wrap64 (b4 + 1)),(by first | rfl | (simp;done) | (simp [*];done)),H',⟨by have:=i0.out;have:=j8.out;have:=j7.out;omega⟩,⟨by (with_reducible repeat (first | apply Kd.R_alloc | apply Kd.R_drewN | apply Kd.R_drew));exact Kd.R_mono t8.out (fun _ hk=>trivial)⟩,⟨bl HB⟩⟩
       rw [if_neg o5] at H
       have t1:(a0 == 3) = false:=beq_eq_false_iff_ne.mpr o5
       have t2:(a0 != 3) = true:=bne_iff_ne.mpr o5
       by_cases p0:a0 = 4
       case neg =>
        rw [if_neg p0] at H
        have t9:(a0 == 4) = false:=beq_eq_false_iff_ne.mpr p0
        have x3:(a0 != 4) = true:=bne_iff_ne.mpr p0
        replace H:=gd H
        obtain ⟨x4,H⟩:=H
        have p1:=A_ x4
        clear x4
        obtain ⟨J2,m4⟩:∃ y_:List (S23),y_ = (d1 ++ [(⟨b9,b7⟩:S23)]):=⟨_,rfl⟩
        rw [← m4] at H
        have x5:=A_ m4
        clear m4
        have H':=A_ H
        clear H
        have J3:=b8.out
        have J4:=b0.out
        have x6:wc.cell? ⟨b1,0,none⟩ = some (.int .i64 b9):=cz b2 0
        have z0:wc.cell? ⟨b1,1,none⟩ = some (.int .i64 b7):=cz b2 1
        have z1:=blk_frozen b2.out 0
        have z2:=blk_frozen b2.out 1
        go_wp2_with (first | ((with_reducible refine gate_builtin (b:=.append) (xs:=#[.tmp 110,.tmp 112]) rfl ?_);at_builtin;refine Kd.R_append k23 (w0:=w) w.heap.size rfl (.tmp 110) (.tmp 112) 35 23 (.agg #[(.int .i64 0),(.int .i64 0)]) 16 rfl Try.underlying35 info23 rfl (by decide) (by omega) u8 d1 (⟨b9,b7⟩:S23) [.int .i64 b9,.int .i64 b7] (fun k_=>k_ ≠ b6 ∧ k_ ≠ b1) (fun _=>False) rfl rfl ?aP (fun _ hk=>hk.elim) ?aF ?aO ?aB ?aS ?aL ?_;(case aP=>exact k23_mkM _ _ _ (⟨b9,b7⟩:S23));(case aB=>exact (bl HB));(case aF=>exact (fun k_ hk=>⟨Kd.freshB (g:=b6) (o:=.cells #[.int .i64 c0,.int .i64 d0] 23 (0,0)) (kb b3) k_ hk,Kd.freshB (g:=b1) (o:=.cells #[.int .i64 b9,.int .i64 b7] 23 (0,0)) (kb b2) k_ hk⟩));(case aO=>exact (rs b5));(case aS=>exact (below_size (bl HB)));(case aL=>have:=p1.out;omega);intro S8 S9 ho hb hg hat;rw [← x5.out] at ho;have z3:=A_ ho;replace b3:=A_ (blk_grown (g:=b6) (o:=.cells #[.int .i64 c0,.int .i64 d0] 23 (0,0)) (kb b3) hg (Kd.R_away b5.out (fun _ hk=>hk.1)));replace b2:=A_ (blk_grown (g:=b1) (o:=.cells #[.int .i64 b9,.int .i64 b7] 23 (0,0)) (kb b2) hg (Kd.R_away b5.out (fun _ hk=>hk.2)));replace HB:=A_ hb;clear b5;clear ho hb hg hat))
        go_roundg d4
        case measure=>have:=i0.out;have:=j8.out;have:=j7.out;omega
        case rel=>exact ⟨(J2),(wrap64 (b4 + 1)),(by first | rfl | (simp;done) | (simp [*];done)),H',⟨by have:=i0.out;have:=j8.out;have:=j7.out;omega⟩,⟨by (with_reducible repeat (first | apply Kd.R_alloc | apply Kd.R_drewN | apply Kd.R_drew));exact Kd.R_mono z3.out (fun _ hk=>trivial)⟩,⟨bl HB⟩⟩
       rw [if_pos p0] at H
       have t9:(a0 == 4) = true:=beq_iff_eq.mpr p0
       have x3:(a0 != 4) = false:=bne_eq_false_iff_eq.mpr p0
       clear p0
       replace H:=Option.bind_eq_some_iff.mp H
       obtain ⟨e0,z4,H⟩:=H
       replace H:(if 0 ≤ b4 then (if b4 < (e0.length:Int) then ((numnahref07_Add.f d4 c0 d0 ((rd_T23 e0 b4).f0) ((rd_T23 e0 b4).f1)).bind fun i5=>((numnahref07_Half.f d4 i5.1 i5.2).bind fun i6=>(if d1.length < 8796093022208 then (numnahref07_Award.l0 d4 a0 l1 a2 d3 (d1 ++ [(⟨i6.1,i6.2⟩:S23)]) (wrap64 (b4 + 1))) else (none)))) else (none)) else (none)) = some r:=H
       have T0:=A_ z4
       clear z4
       replace H:=gd H
       obtain ⟨P0,H⟩:=H
       have P1:=decide_eq_true P0
       clear P0
       replace H:=gd H
       obtain ⟨P2,H⟩:=H
       have P3:=decide_eq_true P2
       clear P2
       replace H:=Option.bind_eq_some_iff.mp H
       obtain ⟨⟨p2,p3⟩,A870,H⟩:=H
       dsimp only at H
       have U0:=A_ A870
       clear A870
       replace H:=Option.bind_eq_some_iff.mp H
       obtain ⟨⟨e6,h5⟩,A880,H⟩:=H
       dsimp only at H
       have U1:=A_ A880
       clear A880
       replace H:=gd H
       obtain ⟨P4,H⟩:=H
       have z5:=A_ P4
       clear P4
       obtain ⟨J5,m5⟩:∃ y_:List (S23),y_ = (d1 ++ [(⟨e6,h5⟩:S23)]):=⟨_,rfl⟩
       rw [← m5] at H
       have z6:=A_ m5
       clear m5
       have H':=A_ H
       clear H
       try go_wp2
       replace b5:=rD b5
       replace b3:=kD b3
       replace b2:=kD b2
       replace HB:=bD HB
       refine st 13 (fun w'=>w'.cell? ⟨b6,0,none⟩ = some (.int .i64 c0) ∧ w'.cell? ⟨b6,1,none⟩ = some (.int .i64 d0)) [] numnahref07_Award.tab19 numnahref07_Award.bits19 (fun hHeld HT_ HW_=>?_)
       generalize wc.drew = W0 at b5 b3 b2 HB hHeld ⊢
       refine pq 1 99 2 HT_ ?_
       refine pq 2 100 6 HT_ ?_
       refine pq 3 101 14 HT_ ?_
       refine pq 4 102 30 HT_ ?_
       refine pq 5 103 62 HT_ ?_
       refine pq 7 105 190 HT_ ?_
       refine tq 0 98 191 HT_ HW_ hHeld ?_
       refine oq 6 104 255 HT_ (fun K hK=>?_)
       refine gq Try.func75 #[.slice (some h6) l1.length c1,.int .i64 (wrap64 ((wrap64 (2 * a2)) - d3))] ?_
       with_reducible refine (numnahref07_equal.calls d4 _ _ l1 (wrap64 ((wrap64 (2 * a2)) - d3)) e0 _ ?side1 ?side2 T0.out).mono ?_
       (case side1=>exact cB m7 HB)
       (case side2=>exact p6.out)
       rintro e W1 ⟨U2,rfl,l7,hb⟩
       refine ⟨_,rfl,?_⟩
       have e2:=A_ (Kd.R_lower (Kd.R_newB (Kd.R_newB (Kd.R_new' l7 (Kd.R_lt (rs b5))) (g:=b6) (o:=.cells #[.int .i64 c0,.int .i64 d0] 23 (0,0)) (kb b3)) (g:=b1) (o:=.cells #[.int .i64 b9,.int .i64 b7] 23 (0,0)) (kb b2)) (below_size (bl HB)))
       replace b5:=A_ (Kd.R_elder' (rs b5) (Kd.R_base l7) hb)
       replace b3:=kB b3 hb
       replace b2:=kB b2 hb
       replace HB:=bB HB hb
       (try clear hb)
       obtain ⟨U3,J6,z7⟩:=Kd.R_slice e2.out
       (first | subst z7 | (injection z7 with m8 s1 m9;have s2:=m8.symm;have s3:=m9.symm;clear m8 s1 m9;subst s2;subst s3))
       have p4:0 ≤ (b4:Int):=of_decide_eq_true (by first | (with_reducible assumption) | assumption)
       have p5:b4 < (e0.length:Int):=of_decide_eq_true (by first | (with_reducible assumption) | assumption)
       obtain ⟨z8,J7,G2,G3⟩:=at_T23 (Kd.R_reads' e2.out).2.2 b4 p4 p5
       cases J7
       replace p4:=eq_true p4
       replace p5:=eq_true p5
       refine hz hK (fun hHeld=>?_)
       clear hK K
       refine nq 104 ?_
       refine pq 8 106 511 HT_ ?_
       refine oq 9 107 1023 HT_ (fun K hK=>?_)
       refine value_ (w1:=?_) (v:=?_) (by rfl) rfl ?_ ?_
       rotate_left 2
       ·go_simp
        constructor
        ·rfl
        rfl
       refine hK.out _ _ hHeld (fun hHeld=>?_)
       clear hK K
       refine nq 107 ?_
       refine oq 10 108 2047 HT_ (fun K hK=>?_)
       refine gq Try.func28 #[.agg #[.int .i64 c0,.int .i64 d0],.agg #[.int .i64 ((rd_T23 e0 b4).f0),.int .i64 ((rd_T23 e0 b4).f1)]] ?_
       with_reducible refine (numnahref07_Add.calls d4 c0 d0 ((rd_T23 e0 b4).f0) ((rd_T23 e0 b4).f1) p2 p3 _ U0.out).mono ?_
       rintro e W2 ⟨rfl,hb⟩
       refine ⟨_,rfl,?_⟩
       replace b5:=rB b5 hb
       replace e2:=rB e2 hb
       replace b3:=kB b3 hb
       replace b2:=kB b2 hb
       replace HB:=bB HB hb
       (try clear hb)
       refine hz hK (fun hHeld=>?_)
       clear hK K
       refine nq 108 ?_
       refine oq 11 109 4095 HT_ (fun K hK=>?_)
       refine gq Try.func67 #[.agg #[.int .i64 p2,.int .i64 p3]] ?_
       with_reducible refine (numnahref07_Half.calls d4 p2 p3 e6 h5 _ U1.out).mono ?_
       rintro e G4 ⟨rfl,hb⟩
       refine ⟨_,rfl,?_⟩
       replace b5:=rB b5 hb
       replace e2:=rB e2 hb
       replace b3:=kB b3 hb
       replace b2:=kB b2 hb
       replace HB:=bB HB hb
       (try clear hb)
       refine hz hK (fun hHeld=>?_)
       clear hK K
       refine nq 109 ?_
       refine one_ (i:=12) (N:=none) (ba 13 8191) rfl rfl (one_of HT_.out (by kernel_rfl)) (by decide) (fun K hK=>?_)
       have U4:G4.cell? ⟨b1,0,none⟩ = some (.int .i64 b9):=cz b2 0
       have P5:=blk_frozen b2.out 0
       have G5:=b0.out
       have G6:=b8.out
       have U5:G4.cell? ⟨b1,1,none⟩ = some (.int .i64 b7):=cz b2 1
       have P6:=blk_frozen b2.out 1
       have G7:=b0.out
       have G8:=b8.out
       refine skip_ (w1:=?_) (by rfl) rfl ?_ ?_
       rotate_left
       ·go_simp
        rfl
       refine hK.out _ _ ⟨((cell_far (p:=⟨b1,_,none⟩) b0.out _).trans (((cell_far (p:=⟨b1,_,none⟩) b0.out _).trans (hHeld.1)))),((cell_far (p:=⟨b1,_,none⟩) b0.out _).trans (((cell_far (p:=⟨b1,_,none⟩) b0.out _).trans (hHeld.2))))⟩ (fun hHeld=>?_)
       clear hK K
       refine done_ (done_of HT_.out (by kernel_rfl)) ?_
       have P7:=b8.out
       have P8:=b0.out
       have G9:G4.cell? ⟨b1,0,none⟩ = some (.int .i64 b9):=cz b2 0
       have H0:G4.cell? ⟨b1,1,none⟩ = some (.int .i64 b7):=cz b2 1
       have H1:=blk_frozen b2.out 0
       have H2:=blk_frozen b2.out 1
       try go_wp2_with (first | ((with_reducible refine gate_builtin (b:=.append) (xs:=#[.tmp 110,.tmp 112]) rfl ?_);at_builtin;refine Kd.R_append k23 (w0:=w) w.heap.size rfl (.tmp 110) (.tmp 112) 35 23 (.agg #[(.int .i64 0),(.int .i64 0)]) 16 rfl Try.underlying35 info23 rfl (by decide) (by omega) u8 d1 (⟨e6,h5⟩:S23) [.int .i64 e6,.int .i64 h5] (fun k_=>some k_ ≠ (.slice (some z8) e0.length J6:Value).ownBlock ∧ k_ ≠ b6 ∧ k_ ≠ b1) (fun _=>False) rfl (by first | (go_simp;done) | (go_simp;rfl)) ?aP (fun _ hk=>hk.elim) ?aF ?aO ?aB ?aS ?aL ?_;(case aP=>exact k23_mkM _ _ _ (⟨e6,h5⟩:S23));(case aB=>exact (bl HB));(case aF=>exact (fun k_ hk=>⟨Kd.fresh' (Kd.R_lt (by (with_reducible repeat (first | apply Kd.R_alloc | apply Kd.R_drewN | apply Kd.R_drew));exact (Kd.R_mono (Kd.R_far (p:=⟨b1,1,none⟩) (Kd.R_far (p:=⟨b1,0,none⟩) (Kd.R_mono e2.out (fun k_ hk=>(⟨hk,hk.2⟩:_ ∧ k_ ≠ b1))) (fun _ hk=>hk.2) (.int .i64 e6)) (fun _ hk=>hk.2) (.int .i64 h5)) (fun _ h_=>h_.1)))) k_ hk,Kd.freshB (g:=b6) (o:=.cells #[.int .i64 c0,.int .i64 d0] 23 (0,0)) (by (with_reducible repeat (first | refine blk_drewN ?_ _ | refine blk_drew ?_ | refine blk_alloc ?_ _));refine blk_far ?_ b0.out _;(with_reducible repeat (first | refine blk_drewN ?_ _ | refine blk_drew ?_ | refine blk_alloc ?_ _));refine blk_far ?_ b0.out _;(with_reducible repeat (first | refine blk_drewN ?_ _ | refine blk_drew ?_ | refine blk_alloc ?_ _));exact b3.out) k_ hk,Kd.freshB (g:=b1) (o:=.cells #[.int .i64 e6,.int .i64 h5] 23 (0,0)) (by (with_reducible repeat (first | refine blk_drewN ?_ _ | refine blk_drew ?_ | refine blk_alloc ?_ _));refine blk_put (cs:=#[.int .i64 e6,.int .i64 b7]) ?_ 1 _ rfl;(with_reducible repeat (first | refine blk_drewN ?_ _ | refine blk_drew ?_ | refine blk_alloc ?_ _));refine blk_put (cs:=#[.int .i64 b9,.int .i64 b7]) ?_ 0 _ rfl;(with_reducible repeat (first | refine blk_drewN ?_ _ | refine blk_drew ?_ | refine blk_alloc ?_ _));exact b2.out) k_ hk⟩));(case aO=>exact (by (with_reducible repeat (first | apply Kd.R_alloc | apply Kd.R_drewN | apply Kd.R_drew));exact Kd.R_mono (Kd.R_far (p:=⟨b1,1,none⟩) (Kd.R_far (p:=⟨b1,0,none⟩) (Kd.R_mono b5.out (fun k_ hk=>(⟨hk,hk.1.2⟩:_ ∧ k_ ≠ b1))) (fun _ hk=>hk.2) (.int .i64 e6)) (fun _ hk=>hk.2) (.int .i64 h5)) (fun _ hk=>⟨hk.1.2,⟨hk.1.1.1,hk.1.1.2⟩⟩)));(case aS=>exact (below_size (bl HB)));(case aL=>have:=z5.out;omega);intro U6 W3 ho hb hg hat;rw [← z6.out] at ho;have z9:=A_ ho;replace b3:=A_ (blk_grown (g:=b6) (o:=.cells #[.int .i64 c0,.int .i64 d0] 23 (0,0)) (by (with_reducible repeat (first | refine blk_drewN ?_ _ | refine blk_drew ?_ | refine blk_alloc ?_ _));refine blk_far ?_ b0.out _;(with_reducible repeat (first | refine blk_drewN ?_ _ | refine blk_drew ?_ | refine blk_alloc ?_ _));refine blk_far ?_ b0.out _;(with_reducible repeat (first | refine blk_drewN ?_ _ | refine blk_drew ?_ | refine blk_alloc ?_ _));exact b3.out) hg (Kd.R_away b5.out (fun _ hk=>hk.1.1)));replace b2:=A_ (blk_grown (g:=b1) (o:=.cells #[.int .i64 e6,.int .i64 h5] 23 (0,0)) (by (with_reducible repeat (first | refine blk_drewN ?_ _ | refine blk_drew ?_ | refine blk_alloc ?_ _));refine blk_put (cs:=#[.int .i64 e6,.int .i64 b7]) ?_ 1 _ rfl;(with_reducible repeat (first | refine blk_drewN ?_ _ | refine blk_drew ?_ | refine blk_alloc ?_ _));refine blk_put (cs:=#[.int .i64 b9,.int .i64 b7]) ?_ 0 _ rfl;(with_reducible repeat (first | refine blk_drewN ?_ _ | refine blk_drew ?_ | refine blk_alloc ?_ _));exact b2.out) hg (Kd.R_away b5.out (fun _ hk=>hk.1.2)));replace e2:=A_ (Kd.R_after (ok:=(fun k_=>k_ ≠ b6 ∧ k_ ≠ b1)) (by (with_reducible repeat (first | apply Kd.R_alloc | apply Kd.R_drewN | apply Kd.R_drew));exact Kd.R_mono (Kd.R_far (p:=⟨b1,1,none⟩) (Kd.R_far (p:=⟨b1,0,none⟩) (Kd.R_mono e2.out (fun k_ hk=>(⟨hk,hk.2⟩:_ ∧ k_ ≠ b1))) (fun _ hk=>hk.2) (.int .i64 e6)) (fun _ hk=>hk.2) (.int .i64 h5)) (fun _ hk=>⟨⟨hk.1.1.2,hk.1.2⟩,hk.1.1.1.2⟩)) hg hat);replace HB:=A_ hb;clear b5;clear ho hb hg hat))
       go_roundg d4
       case measure=>have:=i0.out;have:=j8.out;have:=j7.out;omega
       case rel=>exact ⟨(J5),(wrap64 (b4 + 1)),(by first | rfl | (simp;done) | (simp [*];done)),H',⟨by have:=i0.out;have:=j8.out;have:=j7.out;omega⟩,⟨by (with_reducible repeat (first | apply Kd.R_alloc | apply Kd.R_drewN | apply Kd.R_drew));exact Kd.R_mono z9.out (fun _ hk=>trivial)⟩,⟨bl HB⟩⟩
end Go.Proofs.Ytjohcjfmlhihbaa.G
set_option linter.unusedSectionVars false
namespace Go.Proofs.Ytjohcjfmlhihbaa.P
open Go Go.RowKit Go.Proofs.Ytjohcjfmlhihbaa.G
open Go.Proofs.YtjohcjfmlhihbaaW.PrintWords Go.Proofs.YtjohcjfmlhihbaaW.PrintMore
theorem raward_loop {r E s:Int} {l:List Int} (hl:l.length ≤ 10) (y:List Rat) (hy:y.length = l.length)
  (step:∀ (i:Nat) (hi:i < l.length) (acc:List S23) (v:List S23),acc.length ≤ 10 → Ev (fun k=>numnahref07_Award.l0 k r l E s (acc ++ [encQ (y[i]'(by omega))]) ((i + 1:Nat):Int)) v → Ev (fun k=>numnahref07_Award.l0 k r l E s acc (i:Int)) v) :
  Ev (fun k=>numnahref07_Award.l0 k r l E s [] 0) (encL y):=by
 have go:∀ (d i:Nat),i + d = l.length → Ev (fun k=>numnahref07_Award.l0 k r l E s (encL (y.take i)) (i:Int)) (encL y):=by
  intro d
  induction d with
  | zero =>
   intro i hi
   refine Ev.step (f:=fun _=>some (encL y)) (fun k=>?_) (Ev.now _)
   rw [numnahref07_Award.l0,if_neg (by omega),List.take_of_length_le (by omega)]
  | succ d ih =>
   intro i hi
   refine step i (by omega) _ _ (by rw [encL_length,List.length_take];omega) ?_
   have:=ih (i + 1) (by omega)
   rw [List.take_succ_eq_append_getElem (by omega:i < y.length)] at this
   unfold encL at this ⊢
   rw [List.map_append] at this
   exact this
 exact go l.length 0 (by omega)
section
variable {l:List Int} (h:IsCl l) {E:Int} (h0:0 ≤ E) (h1:E ≤ sI l)
include h h0 h1
theorem raward_start {r:Int} {y:List S23} (hv:Ev (fun k=>numnahref07_Award.l0 k r l E (sI l) [] 0) y):Ev (fun k=>numnahref07_Award.f k r l E) y:=by
 unfold numnahref07_Award.f
 exact Ev.bind (ev_rtotal h.mem (by have:=h.ten;omega)) hv
theorem head_l0 {r:Int} {acc v:List S23} {i:Nat} (hi:i < l.length) (hv:Ev (fun k=>if r = 0 then numnahref07_Award.j1 k r l E (sI l) acc (i:Int) (decide (sI l > 0)) l[i] 1 0 1 else numnahref07_Award.j1 k r l E (sI l) acc (i:Int) false l[i] 1 0 1) v) :
  Ev (fun k=>numnahref07_Award.l0 k r l E (sI l) acc (i:Int)) v:=by
 refine Ev.step (fun k=>?_) hv
 rw [numnahref07_Award.l0,if_pos (by omega),if_pos (by omega),rd_get hi]
 rfl
theorem rprop:∃ x,IsRule 0 (cl l) (E:Rat) x ∧ Ev (fun k=>numnahref07_Award.f k 0 l E) (encL x):=by
 have hs:=sI_cl h
 have hl:=h.ten
 obtain ⟨a,ha⟩:∃ a:Nat,sI l = (a:Int):=⟨(sI l).toNat,by omega⟩
 have haR:(a:Rat) = tot (cl l):=by rw [tot_cl,ha];rfl
 by_cases hp:0 < sI l
 ·have hp':0 < tot (cl l):=by rw [tot_cl];exact Rat.intCast_pos.2 hp
  refine ⟨(cl l).map fun c=>c * (E:Rat) / tot (cl l),⟨fun c=>if 0 < tot (cl l) then c * (E:Rat) / tot (cl l) else 0,rfl,List.map_congr_left fun c _=>by rw [if_pos hp'],?_⟩,raward_start h h0 h1 (raward_loop hl _ (by rw [List.length_map,cl_length]) ?_)⟩
  ·have e2:((cl l).map fun c=>c * (E:Rat) / tot (cl l)) = (cl l).map fun c=>c * ((E:Rat) / tot (cl l)):=List.map_congr_left fun c _=>by
    rw [Rat.div_def,Rat.div_def,Rat.mul_assoc]
   rw [e2,tot_mul (fun c=>c),List.map_id',Rat.mul_comm]
   exact Rat.div_mul_cancel (by grind)
  ·intro i hi acc v hacc hv
   refine head_l0 h h0 h1 hi ?_
   simp only [if_true]
   have hm:=h.mem _ (List.getElem_mem hi)
   have hb:(l[i] * E).natAbs ≤ 1000 * 10000:=by
    rw [Int.natAbs_mul];exact Nat.mul_le_mul (by omega) (by omega)
   obtain ⟨K1,e1⟩:=ev_frac (l[i] * E) a (by omega) (by omega) (by omega)
   obtain ⟨K2,e2⟩:=hv
   refine ⟨K1 + K2 + 1,fun k hk=>?_⟩
   obtain ⟨m,rfl⟩:∃ m,k = m + 1:=⟨k - 1,by omega⟩
   have f1:=e1 m (by omega)
   have f2:=e2 m (by omega)
   have e:(⟨(mkRat (l[i] * E) a).num,((mkRat (l[i] * E) a).den:Int)⟩:S23) = encQ (((cl l).map fun c=>c * (E:Rat) / tot (cl l))[i]'(by rw [List.length_map,cl_length];exact hi)):=by
    rw [List.getElem_map,cl_get hi,mk_frac,← haR];push_cast;rfl
   show numnahref07_Award.j1 (m + 1) _ _ _ _ _ _ _ _ _ _ _ = _
   rw [numnahref07_Award.j1,decide_eq_true (by omega:sI l > 0),if_pos rfl,if_pos (by omega),if_pos (by omega),rd_get hi,wrap_abs (by omega:(l[i] * E).natAbs < _),ref_reduced,ha]
   simp only [f1,Option.bind_some]
   rw [if_pos (by omega),e,wrap_succ (by omega),← ha]
   exact f2
 ·have hp':¬ 0 < tot (cl l):=by rw [tot_cl];exact fun k=>hp (Rat.intCast_pos.1 k)
  have hE:E = 0:=by omega
  refine ⟨(cl l).map fun _=>0,⟨fun c=>if 0 < tot (cl l) then c * (E:Rat) / tot (cl l) else 0,rfl,List.map_congr_left fun c _=>by rw [if_neg hp'],?_⟩,raward_start h h0 h1 (raward_loop hl _ (by rw [List.length_map,cl_length]) ?_)⟩
  ·rw [tot_const,Rat.mul_zero,hE];rfl
  ·intro i hi acc v hacc hv
   refine head_l0 h h0 h1 hi ?_
   simp only [if_true]
   have e:(⟨0,1⟩:S23) = encQ (((cl l).map fun _=>(0:Rat))[i]'(by rw [List.length_map,cl_length];exact hi)):=by
    rw [List.getElem_map];rfl
   refine Ev.step (f:=fun k=>numnahref07_Award.j2 k 0 l E (sI l) acc (i:Int) false l[i] 1 0 1) (fun k=>?_) (Ev.step (fun k=>?_) hv)
   ·rw [numnahref07_Award.j1,decide_eq_false (by omega:¬ sI l > 0),if_neg (by decide),if_neg (by decide),if_neg (by decide),if_neg (by decide)]
   ·rw [numnahref07_Award.j2,if_neg (by decide),if_neg (by decide),if_neg (by decide),if_pos (by omega),e,wrap_succ (by omega)]
theorem rawards:∃ x,IsRule 1 (cl l) (E:Rat) x ∧ Ev (fun k=>numnahref07_Award.f k 1 l E) (encL x):=by
 have hs:=sI_cl h
 have hl:=h.ten
 obtain ⟨x,⟨L,rfl,ht⟩,hx⟩:=ev_requal h h0 (by omega) h1
 refine ⟨_,⟨fun c=>min c L,⟨L,rfl⟩,rfl,ht⟩,raward_start h h0 h1 (raward_loop hl _ (by rw [List.length_map,cl_length]) ?_)⟩
 intro i hi acc v hacc hv
 refine head_l0 h h0 h1 hi ?_
 simp only [show ¬ (1:Int) = 0 by decide,if_false]
 obtain ⟨K1,e1⟩:=hx
 obtain ⟨K2,e2⟩:=hv
 refine ⟨K1 + K2 + 1,fun k hk=>?_⟩
 obtain ⟨m,rfl⟩:∃ m,k = m + 1:=⟨k - 1,by omega⟩
 have f1:=e1 m (by omega)
 have f2:=e2 m (by omega)
 have hi2:i < ((cl l).map fun c=>min c L).length:=by rw [List.length_map,cl_length];exact hi
 show numnahref07_Award.j1 (m + 1) _ _ _ _ _ _ _ _ _ _ _ = _
 rw [numnahref07_Award.j1,if_neg (by decide),if_pos rfl]
 simp only [f1,Option.bind_some]
 rw [if_pos (by omega),encL_length,if_pos (by omega),if_pos (by omega),rdE hi2,wrap_succ (by omega)]
 exact f2
theorem rlosses:∃ x,IsRule 2 (cl l) (E:Rat) x ∧ Ev (fun k=>numnahref07_Award.f k 2 l E) (encL x):=by
 have hs:=sI_cl h
 have hl:=h.ten
 have e0:((sI l - E:Int):Rat) = tot (cl l) - (E:Rat):=by rw [tot_cl];push_cast;rfl
 obtain ⟨x,⟨L,rfl,ht⟩,hx⟩:=ev_requal h (E:=sI l - E) (by omega) (by omega) (by omega)
 have hsm:=min_small (cl_okC h) (by rw [cl_length];exact hl) (E_ge (by omega)) (E_den _) ht
 refine ⟨(cl l).map fun c=>c - min c L,⟨fun c=>c - min c L,⟨L,rfl⟩,rfl,?_⟩,raward_start h h0 h1 (raward_loop hl _ (by rw [List.length_map,cl_length]) ?_)⟩
 ·have:=tot_sub (fun c=>c) (fun c=>min c L) (cl l)
  rw [List.map_id'] at this
  rw [this,ht,e0];grind
 intro i hi acc v hacc hv
 refine head_l0 h h0 h1 hi ?_
 simp only [show ¬ (2:Int) = 0 by decide,if_false]
 have hm:=h.mem _ (List.getElem_mem hi)
 have hi2:i < ((cl l).map fun c=>min c L).length:=by rw [List.length_map,cl_length];exact hi
 have hsi:=hsm _ (List.mem_map.2 ⟨l[i],List.getElem_mem hi,rfl⟩)
 have e3:=ev_rsub ((Sm.int (n:=l[i]) (A:=1000) (by omega)).fits hsi (by decide) (by decide))
 rw [whole_num,whole_den] at e3
 obtain ⟨K1,e1⟩:=hx
 obtain ⟨K2,e2⟩:=hv
 obtain ⟨K3,e3⟩:=e3
 refine ⟨K1 + K2 + K3 + 1,fun k hk=>?_⟩
 obtain ⟨m,rfl⟩:∃ m,k = m + 1:=⟨k - 1,by omega⟩
 have f1:=e1 m (by omega)
 have f2:=e2 m (by omega)
 have f3:numnahref07_Sub.f m l[i] 1 _ _ = _:=e3 m (by omega)
 have e:(⟨((l[i]:Rat) - min (l[i]:Rat) L).num,(((l[i]:Rat) - min (l[i]:Rat) L).den:Int)⟩:S23) = encQ (((cl l).map fun c=>c - min c L)[i]'(by rw [List.length_map,cl_length];exact hi)):=by
  rw [List.getElem_map,cl_get hi];rfl
 show numnahref07_Award.j1 (m + 1) _ _ _ _ _ _ _ _ _ _ _ = _
 rw [numnahref07_Award.j1,if_neg (by decide),if_neg (by decide),if_pos rfl,wrap_id (x:=sI l - E) (by omega) (by omega)]
 simp only [f1,Option.bind_some]
 rw [if_pos (by omega),encL_length,if_pos (by omega),rdE hi2,List.getElem_map,cl_get hi]
 simp only [encQ,f3,Option.bind_some]
 rw [if_pos (by omega),wrap_succ (by omega),e]
 exact f2
theorem half_den {q:Rat} (hq:Sm 20000 20 q):q.num.natAbs < 9223372036854775808 ∧ 2 * q.den < 9223372036854775808:=⟨Nat.lt_of_le_of_lt hq.num (by decide),by have:=hq.den;omega⟩
theorem to_j2 {r:Nat} (hr:r = 3 ∨ r = 4) {acc v:List S23} {i:Nat} (hi:i < l.length) (hv:Ev (fun k=>numnahref07_Award.j2 k (r:Int) l E (sI l) acc (i:Int) (decide (2 * E ≤ sI l)) l[i] 1 0 1) v) :
  Ev (fun k=>numnahref07_Award.l0 k (r:Int) l E (sI l) acc (i:Int)) v:=by
 have hs:=sI_cl h
 refine head_l0 h h0 h1 hi ?_
 simp only [show ¬ (r:Int) = 0 by omega,if_false]
 refine Ev.step (fun k=>?_) hv
 rw [numnahref07_Award.j1,if_neg (by decide),if_neg (by omega),if_neg (by omega),if_pos (by omega),wrap_id (x:=2 * E) (by omega) (by omega)]
theorem rlow {r:Nat} (hr:r = 3 ∨ r = 4) (hlow:2 * E ≤ sI l):∃ x,IsRule r (cl l) (E:Rat) x ∧ Ev (fun k=>numnahref07_Award.f k (r:Int) l E) (encL x):=by
 have hs:=sI_cl h
 have hl:=h.ten
 obtain ⟨x,⟨L,rfl,ht⟩,hx⟩:=ev_requal h (E:=2 * E) (by omega) (by omega) (by omega)
 have hsm:=min_small (cl_okC h) (by rw [cl_length];exact hl) (E_ge (by omega)) (E_den _) ht
 have hmin:∀ c:Rat,min c L / 2 = min (c / 2) (L / 2):=fun c=>by grind
 have htot:tot ((cl l).map fun c=>min (c / 2) (L / 2)) = (E:Rat):=by
  have e1:((cl l).map fun c=>min (c / 2) (L / 2)) = (cl l).map fun c=>min c L * (1 / 2):=List.map_congr_left fun c _=>by rw [← hmin];grind
  rw [e1,tot_mul,ht];push_cast;grind
 have hform:Form r (cl l) (E:Rat) (fun c=>min (c / 2) (L / 2)):=by
  rcases hr with rfl | rfl
  ·exact .inl ⟨low_cond h h0 h1 hlow,_,rfl⟩
  ·exact .inl ⟨low_cond h h0 h1 hlow,_,rfl⟩
 refine ⟨(cl l).map fun c=>min (c / 2) (L / 2),⟨_,hform,rfl,htot⟩,raward_start h h0 h1 (raward_loop hl _ (by rw [List.length_map,cl_length]) ?_)⟩
 intro i hi acc v hacc hv
 refine to_j2 h h0 h1 hr hi ?_
 have hi2:i < ((cl l).map fun c=>min c L).length:=by rw [List.length_map,cl_length];exact hi
 have hsi:=half_den h h0 h1 (hsm _ (List.mem_map.2 ⟨l[i],List.getElem_mem hi,rfl⟩))
 obtain ⟨K3,e3⟩:=ev_rhalf hsi.1 hsi.2
 obtain ⟨K1,e1⟩:=hx
 obtain ⟨K2,e2⟩:=hv
 refine ⟨K1 + K2 + K3 + 1,fun k hk=>?_⟩
 obtain ⟨m,rfl⟩:∃ m,k = m + 1:=⟨k - 1,by omega⟩
 have f1:=e1 m (by omega)
 have f2:=e2 m (by omega)
 have f3:=e3 m (by omega)
 have e:(⟨(min (l[i]:Rat) L / 2).num,((min (l[i]:Rat) L / 2).den:Int)⟩:S23) = encQ (((cl l).map fun c=>min (c / 2) (L / 2))[i]'(by rw [List.length_map,cl_length];exact hi)):=by
  rw [List.getElem_map,cl_get hi,← hmin];rfl
 show numnahref07_Award.j2 (m + 1) _ _ _ _ _ _ _ _ _ _ _ = _
 rw [numnahref07_Award.j2,decide_eq_true hlow,if_pos rfl,wrap_id (x:=2 * E) (by omega) (by omega)]
 simp only [f1,Option.bind_some]
 rw [if_pos (by omega),encL_length,if_pos (by omega),rdE hi2,List.getElem_map,cl_get hi]
 simp only [encQ,f3,Option.bind_some]
 rw [if_pos (by omega),wrap_succ (by omega),e]
 exact f2
theorem rtalmud:∃ x,IsRule 3 (cl l) (E:Rat) x ∧ Ev (fun k=>numnahref07_Award.f k 3 l E) (encL x):=by
 by_cases hlow:2 * E ≤ sI l
 ·exact rlow h h0 h1 (r:=3) (.inl rfl) hlow
 have hs:=sI_cl h
 have hl:=h.ten
 have e0:((2 * (sI l - E):Int):Rat) = 2 * (tot (cl l) - (E:Rat)):=by rw [tot_cl];push_cast;rfl
 obtain ⟨x,⟨L,rfl,ht⟩,hx⟩:=ev_requal h (E:=2 * (sI l - E)) (by omega) (by omega) (by omega)
 have hsm:=min_small (cl_okC h) (by rw [cl_length];exact hl) (E_ge (by omega)) (E_den _) ht
 have hmin:∀ c:Rat,min c L / 2 = min (c / 2) (L / 2):=fun c=>by grind
 have htot:tot ((cl l).map fun c=>c - min (c / 2) (L / 2)) = (E:Rat):=by
  have:=tot_sub (fun c=>c) (fun c=>min (c / 2) (L / 2)) (cl l)
  rw [List.map_id'] at this
  have e1:((cl l).map fun c=>min (c / 2) (L / 2)) = (cl l).map fun c=>min c L * (1 / 2):=List.map_congr_left fun c _=>by rw [← hmin];grind
  rw [this,e1,tot_mul,ht,e0];grind
 refine ⟨(cl l).map fun c=>c - min (c / 2) (L / 2),⟨_,.inr ⟨high_cond h h0 h1 hlow,_,rfl⟩,rfl,htot⟩,raward_start h h0 h1 (raward_loop hl _ (by rw [List.length_map,cl_length]) ?_)⟩
 intro i hi acc v hacc hv
 refine to_j2 h h0 h1 (r:=3) (.inl rfl) hi ?_
 have hm:=h.mem _ (List.getElem_mem hi)
 have hi2:i < ((cl l).map fun c=>min c L).length:=by rw [List.length_map,cl_length];exact hi
 have hsi0:=hsm _ (List.mem_map.2 ⟨l[i],List.getElem_mem hi,rfl⟩)
 have hsi:=half_den h h0 h1 hsi0
 obtain ⟨K3,e3⟩:=ev_rhalf hsi.1 hsi.2
 have e4:=ev_rsub ((Sm.int (n:=l[i]) (A:=1000) (by omega)).fits hsi0.half (by decide) (by decide))
 rw [whole_num,whole_den] at e4
 obtain ⟨K4,e4⟩:=e4
 obtain ⟨K1,e1⟩:=hx
 obtain ⟨K2,e2⟩:=hv
 refine ⟨K1 + K2 + K3 + K4 + 1,fun k hk=>?_⟩
 obtain ⟨m,rfl⟩:∃ m,k = m + 1:=⟨k - 1,by omega⟩
 have f1:=e1 m (by omega)
 have f2:=e2 m (by omega)
 have f3:=e3 m (by omega)
 have f4:numnahref07_Sub.f m l[i] 1 _ _ = _:=e4 m (by omega)
 have e:(⟨((l[i]:Rat) - min (l[i]:Rat) L / 2).num,(((l[i]:Rat) - min (l[i]:Rat) L / 2).den:Int)⟩:S23) = encQ (((cl l).map fun c=>c - min (c / 2) (L / 2))[i]'(by rw [List.length_map,cl_length];exact hi)):=by
  rw [List.getElem_map,cl_get hi,← hmin];rfl
 show numnahref07_Award.j2 (m + 1) 3 _ _ _ _ _ _ _ _ _ _ = _
 rw [numnahref07_Award.j2,decide_eq_false hlow,if_neg (by decide),if_pos rfl,wrap_id (x:=sI l - E) (by omega) (by omega),wrap_id (x:=2 * (sI l - E)) (by omega) (by omega)]
 simp only [f1,Option.bind_some]
 rw [if_pos (by omega),encL_length,if_pos (by omega),rdE hi2,List.getElem_map,cl_get hi]
 simp only [encQ,f3,f4,Option.bind_some]
 rw [if_pos (by omega),wrap_succ (by omega),e]
 exact f2
theorem rpiniles:∃ x,IsRule 4 (cl l) (E:Rat) x ∧ Ev (fun k=>numnahref07_Award.f k 4 l E) (encL x):=by
 by_cases hlow:2 * E ≤ sI l
 ·exact rlow h h0 h1 (r:=4) (.inr rfl) hlow
 have hs:=sI_cl h
 have hl:=h.ten
 have e0:((2 * E - sI l:Int):Rat) = 2 * (E:Rat) - tot (cl l):=by rw [tot_cl];push_cast;rfl
 obtain ⟨x,⟨L,rfl,ht⟩,hx⟩:=ev_requal h (E:=2 * E - sI l) (by omega) (by omega) (by omega)
 have hsm:=min_small (cl_okC h) (by rw [cl_length];exact hl) (E_ge (by omega)) (E_den _) ht
 have hmin:∀ c:Rat,(c + min c L) / 2 = c / 2 + min (c / 2) (L / 2):=fun c=>by grind
 have htot:tot ((cl l).map fun c=>c / 2 + min (c / 2) (L / 2)) = (E:Rat):=by
  have e1:((cl l).map fun c=>c / 2 + min (c / 2) (L / 2)) = (cl l).map fun c=>(c + min c L) * (1 / 2):=List.map_congr_left fun c _=>by rw [← hmin];grind
  have e2:=tot_add (fun c=>c) (fun c=>min c L) (cl l)
  rw [List.map_id'] at e2
  rw [e1,tot_mul,e2,ht,e0];grind
 refine ⟨(cl l).map fun c=>c / 2 + min (c / 2) (L / 2),⟨_,.inr ⟨high_cond h h0 h1 hlow,_,rfl⟩,rfl,htot⟩,raward_start h h0 h1 (raward_loop hl _ (by rw [List.length_map,cl_length]) ?_)⟩
 intro i hi acc v hacc hv
 refine to_j2 h h0 h1 (r:=4) (.inr rfl) hi ?_
 have hm:=h.mem _ (List.getElem_mem hi)
 have hi2:i < ((cl l).map fun c=>min c L).length:=by rw [List.length_map,cl_length];exact hi
 have hsi0:=hsm _ (List.mem_map.2 ⟨l[i],List.getElem_mem hi,rfl⟩)
 have hw:Sm 1000 1 ((l[i]:Int):Rat):=Sm.int (by omega)
 have e3:=ev_radd (hw.fits hsi0 (by decide) (by decide))
 have hsum:=hw.add hsi0
 have e4:=ev_rhalf (q:=(l[i]:Rat) + min (l[i]:Rat) L) (Nat.lt_of_le_of_lt hsum.num (by decide)) (by have:=hsum.den;omega)
 rw [whole_num,whole_den] at e3
 obtain ⟨K3,e3⟩:=e3
 obtain ⟨K4,e4⟩:=e4
 obtain ⟨K1,e1⟩:=hx
 obtain ⟨K2,e2⟩:=hv
 refine ⟨K1 + K2 + K3 + K4 + 1,fun k hk=>?_⟩
 obtain ⟨m,rfl⟩:∃ m,k = m + 1:=⟨k - 1,by omega⟩
 have f1:=e1 m (by omega)
 have f2:=e2 m (by omega)
 have f3:numnahref07_Add.f m l[i] 1 _ _ = _:=e3 m (by omega)
 have f4:=e4 m (by omega)
 have e:(⟨(((l[i]:Rat) + min (l[i]:Rat) L) / 2).num,((((l[i]:Rat) + min (l[i]:Rat) L) / 2).den:Int)⟩:S23) = encQ (((cl l).map fun c=>c / 2 + min (c / 2) (L / 2))[i]'(by rw [List.length_map,cl_length];exact hi)):=by
  rw [List.getElem_map,cl_get hi,← hmin];rfl
 show numnahref07_Award.j2 (m + 1) 4 _ _ _ _ _ _ _ _ _ _ = _
 rw [numnahref07_Award.j2,decide_eq_false hlow,if_neg (by decide),if_neg (by decide),if_pos rfl,wrap_id (x:=2 * E) (by omega) (by omega),wrap_id (x:=2 * E - sI l) (by omega) (by omega)]
 simp only [f1,Option.bind_some]
 rw [if_pos (by omega),encL_length,if_pos (by omega),rdE hi2,List.getElem_map,cl_get hi]
 simp only [encQ,f3,f4,Option.bind_some]
 rw [if_pos (by omega),wrap_succ (by omega),e]
 exact f2
theorem ev_rAward {r:Nat} (hr:r ≤ 4):∃ x,IsRule r (cl l) (E:Rat) x ∧ Ev (fun k=>numnahref07_Award.f k (r:Int) l E) (encL x):=by
 obtain rfl | rfl | rfl | rfl | rfl:r = 0 ∨ r = 1 ∨ r = 2 ∨ r = 3 ∨ r = 4:=by omega
 ·exact rprop h h0 h1
 ·exact rawards h h0 h1
 ·exact rlosses h h0 h1
 ·exact rtalmud h h0 h1
 ·exact rpiniles h h0 h1
end
end Go.Proofs.Ytjohcjfmlhihbaa.P
namespace Go.Proofs.Ytjohcjfmlhihbaa.P
open Go Go.RowKit Go.Proofs.Ytjohcjfmlhihbaa.G
open Go.Proofs.YtjohcjfmlhihbaaW.PrintWords Go.Proofs.YtjohcjfmlhihbaaW.PrintMore
theorem awake_now:numnahlaw07_awake.f 60 = some true:=by kernel_rfl
theorem ev_awake:Ev (fun k=>numnahlaw07_awake.f k) true:=Ev.of (fun k=>numnahlaw07_awake.mono k) awake_now
end Go.Proofs.Ytjohcjfmlhihbaa.P
namespace Go.Proofs.Ytjohcjfmlhihbaa.G
open Go.RowKit Go.Proofs.YtjohcjfmlhihbaaW.PrintWords Go.Proofs.YtjohcjfmlhihbaaW.PrintLast Go.Proofs.YtjohcjfmlhihbaaW.PrintMore
set_option maxHeartbeats 8000000
set_option maxRecDepth 100000
attribute [local go_sem] cond_true cond_false fld23_0 fld23_1 fld45_0 fld45_1 fld109_0 fld109_1 fld94_0 fld94_1 max2_int min2_int max_two min_two max_three min_three max_four min_four   -- for this text's walks alone
def numnahlaw07_mod.f (a0:Int) (a1:Int):Option (Int):=if (IntKind.u64.wrap (a1)) = 0 then (none) else (some (wrap64 (Int.tmod (IntKind.u64.wrap (a0)) (IntKind.u64.wrap (a1)))))
theorem numnahlaw07_mod.calls (a0:Int) (a1:Int) (r:Int) (w:World) (h:numnahlaw07_mod.f a0 a1 = some r) :
  Calls Try.prog 29 #[.int .i64 a0,.int .i64 a1] w fun e w'=>e = .returned (.int .i64 r) ∧ Drawn0 w w':=by
 have H:(if (IntKind.u64.wrap (a1)) = 0 then (none) else (some (wrap64 (Int.tmod (IntKind.u64.wrap (a0)) (IntKind.u64.wrap (a1)))))) = some r:=h
 clear h
 by_cases c3:(IntKind.u64.wrap (a1)) = 0
 ·rw [if_pos c3] at H
  exact absurd H (by simp)
 rw [if_neg c3] at H
 have b0:((IntKind.u64.wrap (a1)) == 0) = false:=beq_eq_false_iff_ne.mpr c3
 have b1:((IntKind.u64.wrap (a1)) != 0) = true:=bne_iff_ne.mpr c3
 obtain rfl:=Option.some.inj H
 go_enter Try.func29,Try.ntmps29
 go_wp2
 go_ret
 exact ⟨by first | rfl | (simp;done) | (simp [*];done),by repeat (first | exact Drawn0.refl _ | apply Drawn0.step)⟩
end Go.Proofs.Ytjohcjfmlhihbaa.G
namespace Go.Proofs.Ytjohcjfmlhihbaa.G
open Go.RowKit Go.Proofs.YtjohcjfmlhihbaaW.PrintWords Go.Proofs.YtjohcjfmlhihbaaW.PrintLast Go.Proofs.YtjohcjfmlhihbaaW.PrintMore
set_option maxHeartbeats 8000000
set_option maxRecDepth 100000
attribute [local go_sem] cond_true cond_false fld23_0 fld23_1 fld45_0 fld45_1 fld109_0 fld109_1 fld94_0 fld94_1 max2_int min2_int max_two min_two max_three min_three max_four min_four
def numnahlaw07_tame.l0:Nat → List Int → Int → List Int → Int → Int → Option (List Int × Int)
 | 0,_,_,_,_,_=>none
 | k + 1,x0,x1,x6,x7,x8=>if x8 < (x0.length:Int) then (if x8 < 10 then (if 0 ≤ x8 then ((numnahlaw07_mod.f (rd x0 x8) 1001).bind fun b6=>(if x6.length < 17592186044416 then ((some (x6 ++ [b6]:List Int)).bind fun b3=>(if x8 < (b3.length:Int) then (numnahlaw07_tame.l0 k x0 x1 b3 (wrap64 (x7 + (rd b3 x8))) (wrap64 (x8 + 1))) else (none))) else (none))) else (none)) else (if (x6.length:Int) = 0 then (some ((([0]:List Int)),0)) else ((numnahlaw07_mod.f x1 (wrap64 (x7 + 1))).bind fun d3=>(some (x6,d3))))) else (if (x6.length:Int) = 0 then (some ((([0]:List Int)),0)) else ((numnahlaw07_mod.f x1 (wrap64 (x7 + 1))).bind fun d4=>(some (x6,d4))))
def numnahlaw07_tame.f (k:Nat) (l0:List Int) (a1:Int):Option (List Int × Int):=numnahlaw07_tame.l0 k l0 a1 (([]:List Int)) 0 0
theorem numnahlaw07_tame.mono_l:∀ k,(∀ y0 y1 y2 y3 y4,LeO (numnahlaw07_tame.l0 k y0 y1 y2 y3 y4) (numnahlaw07_tame.l0 (k + 1) y0 y1 y2 y3 y4))
 | 0=>fun _ _ _ _ _ r h=>by simp [numnahlaw07_tame.l0] at h
 | k + 1=>by
  have h6:=numnahlaw07_tame.mono_l k
  intro y0 y1 y2 y3 y4
  unfold numnahlaw07_tame.l0
  repeat' first
  | (with_reducible first | exact h6 _ _ _ _ _ | exact LeO.refl _ | exact LeO.none _ | refine LeO.ite ?_ ?_ | refine LeO.bind ?_ (fun _=>?_))
  | exact LeO.none _ | refine LeO.ite ?_ ?_ | refine LeO.bind ?_ (fun _=>?_)
theorem numnahlaw07_tame.mono:∀ a0 a1 k,LeO (numnahlaw07_tame.f k a0 a1) (numnahlaw07_tame.f (k + 1) a0 a1):=by
 intro a0 a1 k
 have h6:=numnahlaw07_tame.mono_l k
 unfold numnahlaw07_tame.f
 repeat' first
   | (with_reducible first | exact h6 _ _ _ _ _ | exact LeO.refl _ | exact LeO.none _ | refine LeO.ite ?_ ?_ | refine LeO.bind ?_ (fun _=>?_))
   | exact LeO.none _ | refine LeO.ite ?_ ?_ | refine LeO.bind ?_ (fun _=>?_)
theorem numnahlaw07_tame.calls (k:Nat) (A0:Option Addr) (c0:Nat) (l0:List Int) (a1:Int) (r1:List Int) (r2:Int) (w:World) (i8:Kd.C (Kd.int .i64) w A0 l0.length l0) (i9:l0.length ≤ c0) (h:numnahlaw07_tame.f k l0 a1 = some (r1,r2)) :
  Calls Try.prog 25 #[.slice A0 l0.length c0,.int .i64 a1] w fun e w'=>∃ j5:Value,e = .returned (.tuple #[j5,.int .i64 r2]) ∧ Kd.R (Kd.int .i64) 3 w' w.heap.size (fun _=>True) j5 r1 ∧ Below w.heap.size w w':=by
 have l9:=A_ i8
 have n9:=A_ i9
 clear i8 i9
 have HB:=A_ (Below.refl w.heap.size w)
 have H:(numnahlaw07_tame.l0 k l0 a1 (([]:List Int)) 0 0) = some (r1,r2):=h
 clear h
 obtain ⟨h7,b9⟩:∃ y_:List Int,y_ = (([]:List Int)):=⟨_,rfl⟩
 rw [← b9] at H
 have d5:=A_ b9
 clear b9
 have H':=A_ H
 clear H
 go_enter Try.func25,Try.ntmps25
 go_wp2_with (first | ((with_reducible refine gate_dst (N:=9) rfl ?_);refine Kd.R_lit (Kd.int .i64) _ 3 ?hg (N:=9) ?hd (xs:=([]:List Int)) (inner:=[]) (ok:=fun _=>True) (okp:=fun _=>True) ?hr ?hp (fun _ hk=>hk) trivial (Below.refl _ _) (Nat.le_refl _) (by simp) ?_;(case hd=>rfl);(case hg=>rfl);(case hr=>first | (go_simp;done) | (go_simp;rfl));(case hp=>exact (Reps.none _ _));intro m0 w3 e4 hb hg_ hnew_;clear hg_ hnew_;(first | rw [← d5.out] at e4 | (simp only [Int.reduceToNat] at e4;rw [← d5.out] at e4));have e5:=A_ (Kd.R_lower e4 (below_size (bl HB)));replace HB:=bB HB hb;clear hb e4))
 go_loopg [6,7,8] k (fun kq v6 v7 v8 w'=>∃ (b0:List Int) (b4:Int) (b1:Int),v7 = .int .i64 b4 ∧ v8 = .int .i64 b1 ∧ Aside0 (numnahlaw07_tame.l0 kq l0 a1 b0 b4 b1 = some (r1,r2)) ∧ Aside0 (kq ≤ k) ∧ Aside0 (Kd.R (Kd.int .i64) 3 w' w.heap.size (fun _=>True) v6 b0) ∧ Aside0 (Below w.heap.size w w'))
 case atStart=>exact ⟨(h7),(0),(0),(by first | rfl | (simp;done) | (simp [*];done)),(by first | rfl | (simp;done) | (simp [*];done)),H',⟨Nat.le_refl _⟩,⟨by (with_reducible repeat (first | apply Kd.R_alloc | apply Kd.R_drewN | apply Kd.R_drew));exact e5.out⟩,⟨bl HB⟩⟩
 case round =>
  clear H'
  obtain ⟨b0,b4,b1,rfl,rfl,HA,j7,b2,HB⟩:=hrel
  cases gk with
  | zero=>exact absurd HA.out (by simp [numnahlaw07_tame.l0])
  | succ k1 =>
   have H:=HA.out
   clear HA
   simp only [numnahlaw07_tame.l0] at H
   by_cases c5:b1 < (l0.length:Int)
   case neg =>
    rw [if_neg c5] at H
    have h8:=decide_eq_false c5
    clear c5
    by_cases d6:(b0.length:Int) = 0
    case neg =>
     rw [if_neg d6] at H
     have e6:((b0.length:Int) == 0) = false:=beq_eq_false_iff_ne.mpr d6
     have e7:((b0.length:Int) != 0) = true:=bne_iff_ne.mpr d6
     have j8:¬ (b0 = []):=fun h_=>d6 (by rw [h_];rfl)
     replace H:=Option.bind_eq_some_iff.mp H
     obtain ⟨d4,e8,H⟩:=H
     replace H:(some (b0,d4)) = some (r1,r2):=H
     have m1:=A_ e8
     clear e8
     simp only [Option.some.injEq,Prod.mk.injEq] at H
     obtain ⟨rfl,rfl⟩:=H
     obtain ⟨m2,m3,h9⟩:=Kd.R_slice b2.out
     subst h9
     go_wp2_with (first | ((with_reducible refine gate_callee (f:=29) rfl ?_);refine gL (some 42) Try.func29 #[.int .i64 a1,.int .i64 (wrap64 (b4 + 1))] ?_;(with_reducible refine (numnahlaw07_mod.calls a1 (wrap64 (b4 + 1)) d4 _ m1.out).mono ?_);rintro e w' ⟨rfl,⟨nd,rfl⟩⟩;refine ⟨_,rfl,?_⟩))
     go_ret2
     exact ⟨_,by first | rfl | (simp [errW_none,errW_some] <;> rfl) | (simp [*,errW_none,errW_some] <;> rfl),by (with_reducible repeat (first | apply Kd.R_alloc | apply Kd.R_drewN | apply Kd.R_drew));exact b2.out,bl HB⟩
    rw [if_pos d6] at H
    have e6:((b0.length:Int) == 0) = true:=beq_iff_eq.mpr d6
    have e7:((b0.length:Int) != 0) = false:=bne_eq_false_iff_eq.mpr d6
    clear d6
    obtain ⟨m4,c1⟩:∃ y_:List Int,y_ = (([0]:List Int)):=⟨_,rfl⟩
    rw [← c1] at H
    have d7:=A_ c1
    clear c1
    simp only [Option.some.injEq,Prod.mk.injEq] at H
    obtain ⟨rfl,rfl⟩:=H
    obtain ⟨m5,m6,i0⟩:=Kd.R_slice b2.out
    subst i0
    go_wp2_with (first | ((with_reducible refine gate_dst (N:=37) rfl ?_);refine Kd.R_lit (Kd.int .i64) _ 3 ?hg (N:=37) ?hd (xs:=([0]:List Int)) (inner:=[.int .i64 0]) (ok:=fun _=>True) (okp:=fun _=>True) ?hr ?hp (fun _ hk=>hk) trivial (Below.refl _ _) (Nat.le_refl _) (by simp) ?_;(case hd=>rfl);(case hg=>rfl);(case hr=>first | (go_simp;done) | (go_simp;rfl));(case hp=>exact (Reps.one (show Kd.M (Kd.int .i64) _ _ _ 0 [.int .i64 0] from rfl) (Reps.none _ _)));intro m7 o0 b7 hb hg_ hnew_;clear hg_ hnew_;(first | rw [← d7.out] at b7 | (simp only [Int.reduceToNat] at b7;rw [← d7.out] at b7));have e9:=A_ (Kd.R_lower (Kd.R_new' b7 (Kd.R_lt (rs b2))) (below_size (bl HB)));replace b2:=A_ (Kd.R_elder' (rs b2) (Kd.R_base b7) hb);replace HB:=bB HB hb;clear hb b7))
    go_ret2
    exact ⟨_,by first | rfl | (simp [errW_none,errW_some] <;> rfl) | (simp [*,errW_none,errW_some] <;> rfl),by (with_reducible repeat (first | apply Kd.R_alloc | apply Kd.R_drewN | apply Kd.R_drew));exact Kd.R_mono e9.out (fun _ hk=>trivial),bl HB⟩
   rw [if_pos c5] at H
   have h8:=decide_eq_true c5
   clear c5
   by_cases c6:b1 < 10
   case neg =>
    rw [if_neg c6] at H
    have i1:=decide_eq_false c6
    clear c6
    by_cases d8:(b0.length:Int) = 0
    case neg =>
     rw [if_neg d8] at H
     have h0:((b0.length:Int) == 0) = false:=beq_eq_false_iff_ne.mpr d8
     have h1:((b0.length:Int) != 0) = true:=bne_iff_ne.mpr d8
     have j9:¬ (b0 = []):=fun h_=>d8 (by rw [h_];rfl)
     replace H:=Option.bind_eq_some_iff.mp H
     obtain ⟨d3,h2,H⟩:=H
     replace H:(some (b0,d3)) = some (r1,r2):=H
     have m8:=A_ h2
     clear h2
     simp only [Option.some.injEq,Prod.mk.injEq] at H
     obtain ⟨rfl,rfl⟩:=H
     obtain ⟨m9,n0,i2⟩:=Kd.R_slice b2.out
     subst i2
     go_wp2_with (first | ((with_reducible refine gate_callee (f:=29) rfl ?_);refine gL (some 42) Try.func29 #[.int .i64 a1,.int .i64 (wrap64 (b4 + 1))] ?_;(with_reducible refine (numnahlaw07_mod.calls a1 (wrap64 (b4 + 1)) d3 _ m8.out).mono ?_);rintro e w' ⟨rfl,⟨nd,rfl⟩⟩;refine ⟨_,rfl,?_⟩))
     go_ret2
     exact ⟨_,by first | rfl | (simp [errW_none,errW_some] <;> rfl) | (simp [*,errW_none,errW_some] <;> rfl),by (with_reducible repeat (first | apply Kd.R_alloc | apply Kd.R_drewN | apply Kd.R_drew));exact b2.out,bl HB⟩
    rw [if_pos d8] at H
    have h0:((b0.length:Int) == 0) = true:=beq_iff_eq.mpr d8
    have h1:((b0.length:Int) != 0) = false:=bne_eq_false_iff_eq.mpr d8
    clear d8
    obtain ⟨n1,d0⟩:∃ y_:List Int,y_ = (([0]:List Int)):=⟨_,rfl⟩
    rw [← d0] at H
    have d9:=A_ d0
    clear d0
    simp only [Option.some.injEq,Prod.mk.injEq] at H
    obtain ⟨rfl,rfl⟩:=H
    obtain ⟨n2,n3,i3⟩:=Kd.R_slice b2.out
    subst i3
    go_wp2_with (first | ((with_reducible refine gate_dst (N:=37) rfl ?_);refine Kd.R_lit (Kd.int .i64) _ 3 ?hg (N:=37) ?hd (xs:=([0]:List Int)) (inner:=[.int .i64 0]) (ok:=fun _=>True) (okp:=fun _=>True) ?hr ?hp (fun _ hk=>hk) trivial (Below.refl _ _) (Nat.le_refl _) (by simp) ?_;(case hd=>rfl);(case hg=>rfl);(case hr=>first | (go_simp;done) | (go_simp;rfl));(case hp=>exact (Reps.one (show Kd.M (Kd.int .i64) _ _ _ 0 [.int .i64 0] from rfl) (Reps.none _ _)));intro n4 o1 b8 hb hg_ hnew_;clear hg_ hnew_;(first | rw [← d9.out] at b8 | (simp only [Int.reduceToNat] at b8;rw [← d9.out] at b8));have h3:=A_ (Kd.R_lower (Kd.R_new' b8 (Kd.R_lt (rs b2))) (below_size (bl HB)));replace b2:=A_ (Kd.R_elder' (rs b2) (Kd.R_base b8) hb);replace HB:=bB HB hb;clear hb b8))
    go_ret2
    exact ⟨_,by first | rfl | (simp [errW_none,errW_some] <;> rfl) | (simp [*,errW_none,errW_some] <;> rfl),by (with_reducible repeat (first | apply Kd.R_alloc | apply Kd.R_drewN | apply Kd.R_drew));exact Kd.R_mono h3.out (fun _ hk=>trivial),bl HB⟩
   rw [if_pos c6] at H
   have i1:=decide_eq_true c6
   clear c6
   replace H:=gd H
   obtain ⟨c7,H⟩:=H
   have n5:=decide_eq_true c7
   clear c7
   replace H:=Option.bind_eq_some_iff.mp H
   obtain ⟨b6,l5,H⟩:=H
   replace H:(if b0.length < 17592186044416 then ((some (b0 ++ [b6]:List Int)).bind fun b3=>(if b1 < (b3.length:Int) then (numnahlaw07_tame.l0 k1 l0 a1 b3 (wrap64 (b4 + (rd b3 b1))) (wrap64 (b1 + 1))) else (none))) else (none)) = some (r1,r2):=H
   have A8:=A_ l5
   clear l5
   replace H:=gd H
   obtain ⟨c9,H⟩:=H
   have i4:=A_ c9
   clear c9
   obtain ⟨b3,d1⟩:∃ y_:List Int,y_ = (b0 ++ [b6]):=⟨_,rfl⟩
   rw [← d1] at H
   have h4:=A_ d1
   clear d1
   replace H:=gd H
   obtain ⟨c10,H⟩:=H
   have l6:=decide_eq_true c10
   clear c10
   have H':=A_ H
   clear H
   have e0:0 ≤ (b1:Int):=of_decide_eq_true (by first | (with_reducible assumption) | assumption)
   have e1:b1 < (l0.length:Int):=of_decide_eq_true (by first | (with_reducible assumption) | assumption)
   obtain ⟨l7,i5,b5⟩:=Kd.at_int l9.out b1 e0 e1
   cases i5
   replace b5:=(HB.out.cell (World.block_lt_of_cell? w _ b5)).trans b5
   replace e0:=eq_true e0
   replace e1:=eq_true e1
   go_wp2_with (first | ((with_reducible refine gate_callee (f:=29) rfl ?_);refine gL (some 25) Try.func29 #[.int .i64 (rd l0 b1),.int .i64 1001] ?_;(with_reducible refine (numnahlaw07_mod.calls (rd l0 b1) 1001 b6 _ A8.out).mono ?_);rintro e w' ⟨rfl,⟨nd,rfl⟩⟩;refine ⟨_,rfl,?_⟩) | ((with_reducible refine gate_builtin (b:=.append) (xs:=#[.tmp 20,.tmp 26]) rfl ?_);at_builtin;refine Kd.R_append (Kd.int .i64) (w0:=w) w.heap.size rfl (.tmp 20) (.tmp 26) 28 3 (.int .i64 0) 8 rfl Try.underlying28 info3 rfl (by decide) (by omega) u6 b0 b6 [.int .i64 b6] (fun _=>True) (fun _=>False) rfl rfl ?aP (fun _ hk=>hk.elim) ?aF ?aO ?aB ?aS ?aL ?_;(case aP=>exact rfl);(case aB=>exact (bl HB));(case aF=>exact (fun _ _=>trivial));(case aO=>exact (rs b2));(case aS=>exact (below_size (bl HB)));(case aL=>have:=i4.out;omega);intro n6 o2 ho hb hg hat;rw [← h4.out] at ho;have d2:=A_ ho;replace HB:=A_ hb;clear b2;clear ho hb hg hat;obtain ⟨n7,n8,i6⟩:=Kd.R_slice d2.out;subst i6;have e2:0 ≤ (b1:Int):=of_decide_eq_true (by first | (with_reducible assumption) | assumption);have e3:b1 < (b3.length:Int):=of_decide_eq_true (by first | (with_reducible assumption) | assumption);obtain ⟨l8,i7,h5⟩:=Kd.at_int (Kd.R_reads' d2.out).2.2 b1 e2 e3;cases i7;replace e2:=eq_true e2;replace e3:=eq_true e3))
   go_roundg k1
   case measure=>have:=j7.out;omega
   case rel=>exact ⟨(b3),(wrap64 (b4 + (rd b3 b1))),(wrap64 (b1 + 1)),(by first | rfl | (simp;done) | (simp [*];done)),(by first | rfl | (simp;done) | (simp [*];done)),H',⟨by have:=j7.out;omega⟩,⟨by (with_reducible repeat (first | apply Kd.R_alloc | apply Kd.R_drewN | apply Kd.R_drew));exact d2.out⟩,⟨bl HB⟩⟩
end Go.Proofs.Ytjohcjfmlhihbaa.G
