/- Several texts, joined. -/
import Derived.Test.YtjohcjfmlhihbaaQUp1
set_option linter.unusedVariables false
set_option linter.unusedSimpArgs false
set_option linter.unusedSectionVars false
namespace Go.Proofs.Ytjohcjfmlhihbaa.P
open Go Go.RowKit Go.Proofs.Ytjohcjfmlhihbaa.G
open Go.Proofs.YtjohcjfmlhihbaaW.PrintWords Go.Proofs.YtjohcjfmlhihbaaW.PrintMore
def better (p:List Int) (u:List S45) (fix:Nat → Bool) (r:Nat → Rat) (q:Nat) (b:Option (Nat × Rat)):Option (Nat × Rat) :=
 if wN (netOf p u) u fix q u.length = 0 then b else
  match b with
  | none=>some (q,muq p u fix r q)
  | some am=>if muq p u fix r q < am.2 then some (q,muq p u fix r q) else some am
def srch (p:List Int) (u:List S45) (fix:Nat → Bool) (r:Nat → Rat):Nat → Nat → Option (Nat × Rat) → Option (Nat × Rat)
 | 0,_,b=>b
 | d + 1,i,b=>srch p u fix r d (i + 1) (better p u fix r i b)
def Best (p:List Int) (u:List S45) (fix:Nat → Bool) (r:Nat → Rat) (i:Nat):Option (Nat × Rat) → Prop
 | none=>∀ q,q < i → wN (netOf p u) u fix q u.length = 0
 | some am=>am.1 < p.length ∧ wN (netOf p u) u fix am.1 u.length ≠ 0 ∧ am.2 = muq p u fix r am.1 ∧ ∀ q,q < i → wN (netOf p u) u fix q u.length ≠ 0 → muq p u fix r am.1 ≤ muq p u fix r q
theorem Best.next {p:List Int} {u:List S45} {fix:Nat → Bool} {r:Nat → Rat} {i:Nat} {b:Option (Nat × Rat)} (hi:i < p.length) (h:Best p u fix r i b):Best p u fix r (i + 1) (better p u fix r i b):=by
 unfold better
 by_cases hw:wN (netOf p u) u fix i u.length = 0
 ·rw [if_pos hw]
  cases b with
  | none =>
   intro q hq
   by_cases e:q = i
   ·rw [e];exact hw
   ·exact h q (by omega)
  | some am =>
   refine ⟨h.1,h.2.1,h.2.2.1,fun q hq hwq=>?_⟩
   by_cases e:q = i
   ·subst e;exact absurd hw hwq
   ·exact h.2.2.2 q (by omega) hwq
 ·rw [if_neg hw]
  cases b with
  | none =>
   refine ⟨hi,hw,rfl,fun q hq hwq=>?_⟩
   by_cases e:q = i
   ·subst e;exact Rat.le_refl
   ·exact absurd (h q (by omega)) hwq
  | some am =>
   show Best p u fix r (i + 1) (if muq p u fix r i < am.2 then some (i,muq p u fix r i) else some am)
   obtain ⟨h1,h2,h3,h4⟩:=h
   by_cases hlt:muq p u fix r i < am.2
   ·rw [if_pos hlt]
    refine ⟨hi,hw,rfl,fun q hq hwq=>?_⟩
    by_cases e:q = i
    ·subst e;exact Rat.le_refl
    ·have:=h4 q (by omega) hwq
     show muq p u fix r i ≤ _
     grind
   ·rw [if_neg hlt]
    refine ⟨h1,h2,h3,fun q hq hwq=>?_⟩
    by_cases e:q = i
    ·subst e;rw [h3] at hlt;exact Rat.not_lt.1 hlt
    ·exact h4 q (by omega) hwq
theorem Best.srch {p:List Int} {u:List S45} {fix:Nat → Bool} {r:Nat → Rat}:∀ {d i:Nat} {b:Option (Nat × Rat)},i + d = p.length → Best p u fix r i b → Best p u fix r p.length (srch p u fix r d i b)
 | 0,i,b,hi,h=>by
  obtain rfl:i = p.length:=by omega
  exact h
 | d + 1,i,b,hi,h=>Best.srch (d:=d) (by omega) (h.next (by omega))
def bP:Option (Nat × Rat) → Int × Int × Int
 | none=>(-1,0,0)
 | some am=>((am.1:Int),am.2.num,(am.2.den:Int))
def raiseV (p:List Int) (u:List S45) (fix:Nat → Bool) (r:Nat → Rat) (q:Nat):Int × Int × Bool:=if wN (netOf p u) u fix q u.length = 0 then (0,0,false) else ((muq p u fix r q).num,((muq p u fix r q).den:Int),true)
def fixN (p:List Int) (u:List S45) (fix:Nat → Bool) (a:Nat) (v:Nat):Bool:=fix v || (netOf p u).has v a
def rN (p:List Int) (u:List S45) (fix:Nat → Bool) (r:Nat → Rat) (a:Nat) (m:Rat) (v:Nat):Rat:=if fix v = false ∧ (netOf p u).has v a = true then m * (netOf p u).w v else r v
def fixI (p:List Int) (u:List S45) (fix:Nat → Bool) (a i:Nat) (v:Nat):Bool:=if v < i then fixN p u fix a v else fix v
def rI (p:List Int) (u:List S45) (fix:Nat → Bool) (r:Nat → Rat) (a:Nat) (m:Rat) (i:Nat) (v:Nat):Rat:=if v < i then rN p u fix r a m v else r v
section
variable {p:List Int} {u:List S45} {fix:Nat → Bool} {r:Nat → Rat} {z:S23} {a:Nat} {m:Rat}
theorem next_same {i:Nat} (h:¬ (fix i = false ∧ (netOf p u).has i a = true)):rts u.length z (fixI p u fix a (i + 1)) (rI p u fix r a m (i + 1)) = rts u.length z (fixI p u fix a i) (rI p u fix r a m i) ∧ tab u.length (fixI p u fix a (i + 1)) = tab u.length (fixI p u fix a i):=by
 have h1:∀ v,fixI p u fix a (i + 1) v = fixI p u fix a i v:=by
  intro v
  unfold fixI
  by_cases e:v = i
  ·subst e
   rw [if_pos (by omega),if_neg (by omega)]
   unfold fixN
   cases hf:fix v
   ·cases hh:(netOf p u).has v a
    ·rfl
    ·exact absurd ⟨hf,hh⟩ h
   ·rfl
  ·by_cases e2:v < i
   ·rw [if_pos (by omega),if_pos e2]
   ·rw [if_neg (by omega),if_neg e2]
 have h2:∀ v,rI p u fix r a m (i + 1) v = rI p u fix r a m i v:=by
  intro v
  unfold rI
  by_cases e:v = i
  ·subst e
   rw [if_pos (by omega),if_neg (by omega)]
   unfold rN
   rw [if_neg h]
  ·by_cases e2:v < i
   ·rw [if_pos (by omega),if_pos e2]
   ·rw [if_neg (by omega),if_neg e2]
 exact ⟨tab_congr fun v _=>by rw [h1,h2],tab_congr fun v _=>h1 v⟩
theorem next_set {i:Nat} (h:fix i = false ∧ (netOf p u).has i a = true):rts u.length z (fixI p u fix a (i + 1)) (rI p u fix r a m (i + 1)) = (rts u.length z (fixI p u fix a i) (rI p u fix r a m i)).set i (encQ (m * (netOf p u).w i)) ∧ tab u.length (fixI p u fix a (i + 1)) = (tab u.length (fixI p u fix a i)).set i true:=by
 have h1:∀ v,v ≠ i → fixI p u fix a (i + 1) v = fixI p u fix a i v ∧ rI p u fix r a m (i + 1) v = rI p u fix r a m i v:=by
  intro v e
  unfold fixI rI
  by_cases e2:v < i
  ·rw [if_pos (by omega),if_pos e2,if_pos (by omega),if_pos e2];exact ⟨rfl,rfl⟩
  ·rw [if_neg (by omega),if_neg e2,if_neg (by omega),if_neg e2];exact ⟨rfl,rfl⟩
 have h2:fixI p u fix a (i + 1) i = true:=by
  unfold fixI fixN
  rw [if_pos (by omega),h.2,Bool.or_true]
 have h3:rI p u fix r a m (i + 1) i = m * (netOf p u).w i:=by
  unfold rI rN
  rw [if_pos (by omega),if_pos h]
 unfold rts
 rw [tab_set,tab_set]
 refine ⟨tab_congr fun v _=>?_,tab_congr fun v _=>?_⟩
 ·by_cases e:v = i
  ·subst e;rw [if_pos h2,if_pos rfl,h3]
  ·rw [if_neg e,(h1 v e).1,(h1 v e).2]
 ·by_cases e:v = i
  ·subst e;rw [if_pos rfl,h2]
  ·rw [if_neg e,(h1 v e).1]
theorem first_lists:rts u.length z (fixI p u fix a 0) (rI p u fix r a m 0) = rts u.length z fix r ∧ tab u.length (fixI p u fix a 0) = tab u.length fix:=by
 refine ⟨tab_congr fun v _=>?_,tab_congr fun v _=>?_⟩
 ·unfold fixI rI;rw [if_neg (show ¬ v < 0 by omega),if_neg (show ¬ v < 0 by omega)]
 ·unfold fixI;rw [if_neg (show ¬ v < 0 by omega)]
theorem last_lists:rts u.length z (fixI p u fix a u.length) (rI p u fix r a m u.length) = rts u.length z (fixN p u fix a) (rN p u fix r a m) ∧ tab u.length (fixI p u fix a u.length) = tab u.length (fixN p u fix a):=by
 refine ⟨tab_congr fun v hv=>?_,tab_congr fun v hv=>?_⟩
 ·unfold fixI rI;rw [if_pos hv,if_pos hv]
 ·unfold fixI;rw [if_pos hv]
end
theorem times_den (q:Rat) (n:Int):(q * (n:Rat)).den ∣ q.den:=by
 rw [← mk_times]
 exact den_dvd _ (Nat.ne_of_gt (den_pos q))
theorem wN_ge {N:Net} {u:List S45} {fix:Nat → Bool} {q v:Nat} (h:N.has v q = true) (hf:fix v = false):∀ i,v < i → (rd_T45 u (v:Int)).f0.toNat ≤ wN N u fix q i
 | 0,hi=>by omega
 | i + 1,hi=>by
  rw [wN]
  by_cases e:v = i
  ·subst e
   rw [if_pos (by rw [h,hf];rfl)]
   omega
  ·have:=wN_ge (u:=u) h hf i (by omega)
   split <;> omega
section
variable {p:List Int} {u:List S45} (hN:IsN p u) {fix:Nat → Bool} {r:Nat → Rat} {lam:Rat} {D:Nat} (hF:FS p u fix r lam D)
include hN hF
theorem FS.next {a:Nat} {m:Rat} (hB:Best p u fix r p.length (some (a,m))):FS p u (fixN p u fix a) (rN p u fix r a m) m (D * wN (netOf p u) u fix a u.length) ∧ cnt u.length (fixN p u fix a) < cnt u.length fix:=by
 obtain ⟨h1,h2,h3,h4⟩:=hB
 have h3':m = muq p u fix r a:=h3
 subst h3'
 have hW:0 < (netOf p u).W fix a:=(W_pos_iff hN hF).2 h2
 have hmm:=mu_mul hN hF h2
 have hmin:∀ q,q < (netOf p u).n → 0 < (netOf p u).W fix q → muq p u fix r a * (netOf p u).W fix q ≤ (netOf p u).left fix r q:=by
  intro q hq hWq
  have hw:=(W_pos_iff hN hF).1 hWq
  rw [← mu_mul hN hF hw]
  exact Rat.mul_le_mul_of_nonneg_right (h4 q hq hw) (Rat.le_of_lt hWq)
 obtain ⟨hs,hl⟩:=Net.Fill.step (wpos hN) hF.fill h1 hW hmm hmin
 have hlt:cnt u.length (fixN p u fix a) < cnt u.length fix:=by
  refine cnt_lt _ _ _ (fun v _ hv=>by unfold fixN;rw [hv];rfl) ?_
  apply Classical.byContradiction
  intro hno
  have:(netOf p u).W fix a = 0:=S_zero fun v hv=>by
   cases hf:fix v
   ·cases hh:(netOf p u).has v a
    ·rfl
    ·exact absurd ⟨v,hv,hf,by unfold fixN;rw [hf,hh];rfl⟩ hno
   ·simp
  rw [this] at hW
  exact absurd hW (by decide)
 have m0:0 ≤ muq p u fix r a:=Rat.le_trans hF.lam0 hl
 have hmu:=mu_num hN hF h1 h2
 refine ⟨⟨hs,m0,fun v hv hf=>?_,Nat.mul_pos hF.d0 (Nat.pos_of_ne_zero h2),dens_step hF.dd (wN_cnt hN fix a u.length (Nat.le_refl _)) hlt⟩,hlt⟩
 unfold rN
 by_cases hc:fix v = false ∧ (netOf p u).has v a = true
 ·rw [if_pos hc]
  obtain ⟨e1,e2,e3,e4⟩:=w_nat hN hv
  refine ⟨Rat.mul_nonneg m0 (Rat.le_of_lt (wpos hN v hv)),?_,Nat.dvd_trans (times_den _ _) hmu.2.2.1⟩
  have hge:=wN_ge (N:=netOf p u) (u:=u) hc.2 hc.1 u.length hv
  have hle:(netOf p u).w v ≤ (netOf p u).W fix a:=by
   rw [e1,← wN_W hN]
   exact Rat.natCast_le_natCast.2 hge
  have h5:=Rat.mul_le_mul_of_nonneg_left hle m0
  rw [hmm] at h5
  have h6:=(lf_bd hN hF h1 u.length (Nat.le_refl _)).1
  rw [lf_left hN] at h6
  exact Rat.le_trans h5 h6
 ·rw [if_neg hc]
  have hfv:fix v = true:=by
   cases hfv:fix v
   ·unfold fixN at hf
    rw [hfv,Bool.false_or] at hf
    exact absurd ⟨hfv,hf⟩ hc
   ·rfl
  obtain ⟨b1,b2,b3⟩:=hF.rb v hv hfv
  exact ⟨b1,b2,Nat.dvd_trans b3 (Nat.dvd_mul_right _ _)⟩
theorem some_best (hc:0 < cnt u.length fix):∃ am,srch p u fix r p.length 0 none = some am ∧ Best p u fix r p.length (some am):=by
 have hB:=Best.srch (p:=p) (u:=u) (fix:=fix) (r:=r) (d:=p.length) (i:=0) (b:=none) (by omega) (fun q hq=>by omega)
 cases hs:srch p u fix r p.length 0 none with
 | some am=>rw [hs] at hB;exact ⟨am,rfl,hB⟩
 | none =>
  rw [hs] at hB
  obtain ⟨v,hv,hfv⟩:=List.countP_pos_iff.1 hc
  rw [List.mem_range] at hv
  have hfv':fix v = false:=by simpa using hfv
  have hlen:=hN.len v hv
  have hmem:u[v].f1[0]'(by omega) ∈ u[v].f1:=List.getElem_mem _
  have hq:=hN.pipe v hv _ hmem
  generalize u[v].f1[0]'(by omega) = q at hmem hq
  have hh:(netOf p u).has v q.toNat = true:=by
   rw [has_eq hN hv,Int.toNat_of_nonneg hq.1]
   exact decide_eq_true hmem
  have:=(W_pos_iff hN hF).1 (W_pos (wpos hN) hv hh hfv')
  exact absurd (hB q.toNat (by omega)) this
theorem raise_l0 {z:S23} {q:Nat} (hq:q < p.length):∀ d i,i + d = u.length → Ev (fun k=>shares_net_fair_1.l0 k (q:Int) (wN (netOf p u) u fix q i:Int) (u.length:Int) (i:Int) p u (tab u.length fix) (rts u.length z fix r) (lf (netOf p u) fix r q i).num ((lf (netOf p u) fix r q i).den:Int)) (raiseV p u fix r q):=by
 intro d
 have h6:=hN.u6
 induction d with
 | zero =>
  intro i hi
  obtain rfl:i = u.length:=by omega
  unfold raiseV
  by_cases hw:wN (netOf p u) u fix q u.length = 0
  ·rw [if_pos hw]
   refine Ev.step (f:=fun _=>some (0,0,false)) (fun k=>?_) (Ev.now _)
   rw [shares_net_fair_1.l0,if_neg (by omega),if_pos (by omega)]
  ·rw [if_neg hw]
   have hln:=lf_num hN hF hq (i:=u.length) (Nat.le_refl _)
   have hwl:=wN_cnt hN fix q u.length (Nat.le_refl _)
   have hcm:=cnt_m u.length fix
   have hm:(lf (netOf p u) fix r q u.length).den * wN (netOf p u) u fix q u.length ≤ 2949120 * 24:=Nat.mul_le_mul hln.2 (by omega)
   have ho:=ev_over (lf (netOf p u) fix r q u.length) (n:=wN (netOf p u) u fix q u.length) (by omega) (by omega) (by omega)
   refine Ev.step (fun k=>by rw [shares_net_fair_1.l0,if_neg (by omega),if_neg (by omega)]) (Ev.bind ho (Ev.now _))
 | succ d ih =>
  intro i hi
  have hil:i < u.length:=by omega
  have hn:=ih (i + 1) (by omega)
  rw [lf_succ,wN] at hn
  refine Ev.step (fun k=>by rw [shares_net_fair_1.l0,if_pos (by omega),tab_length,rts,tab_length,tab_b hil,tab_T hil,wrap_succ (by omega)]) (Ev.bind (ev_hasN hN hil q) ?_)
  by_cases hh:(netOf p u).has i q = true
  ·rw [hh] at hn ⊢
   refine Ev.congr (fun k=>if_pos rfl) (Ev.congr (fun k=>if_pos (by omega)) (Ev.congr (fun k=>if_pos (by omega)) ?_))
   by_cases hf:fix i = true
   ·rw [hf] at hn ⊢
    rw [if_pos (show (true && true) = true from rfl),if_neg (show ¬ (true && !true) = true by decide)] at hn
    refine Ev.congr (fun k=>if_pos rfl) (Ev.congr (fun k=>if_pos (by omega)) (Ev.bind (ev_minus (lf_fits hN hF hq hil hf)) hn))
   ·have hf':fix i = false:=by simpa using hf
    rw [hf'] at hn ⊢
    rw [if_neg (show ¬ (true && false) = true by decide),if_pos (show (true && !false) = true from rfl)] at hn
    refine Ev.congr (fun k=>if_neg (by decide)) (Ev.congr (fun k=>if_pos (by omega)) ?_)
    obtain ⟨_,e2,_,e4⟩:=w_nat hN hil
    have hwl:=wN_cnt hN fix q i (by omega)
    have hcm:=cnt_m i fix
    have ew:wrap64 ((wN (netOf p u) u fix q i:Int) + (rd_T45 u (i:Int)).f0) = ((wN (netOf p u) u fix q i + (rd_T45 u (i:Int)).f0.toNat:Nat):Int):=by
     rw [wrap_id (by omega) (by omega)]
     omega
    rw [ew]
    exact hn
  ·have hh':(netOf p u).has i q = false:=by simpa using hh
   rw [hh'] at hn ⊢
   rw [if_neg (show ¬ (false && !fix i) = true by simp),if_neg (show ¬ (false && fix i) = true by simp)] at hn
   exact Ev.congr (fun k=>if_neg (by decide)) hn
theorem ev_raise {z:S23} {q:Nat} (hq:q < p.length):Ev (fun k=>shares_net_fair_1.f k (q:Int) p u (tab u.length fix) (rts u.length z fix r)) (raiseV p u fix r q):=by
 unfold shares_net_fair_1.f shares_whole.f
 refine Ev.congr (fun k=>if_pos (by omega)) (Ev.congr (fun k=>if_pos (by omega)) ?_)
 simp only [Option.bind_some]
 have h:=raise_l0 hN hF (z:=z) hq u.length 0 (by omega)
 have e:lf (netOf p u) fix r q 0 = ((rd p (q:Int):Int):Rat):=by
  unfold lf;rw [S_nil]
  show ((rd p (q:Int):Int):Rat) - 0 = _
  grind
 rw [e,whole_num,whole_den] at h
 exact h
theorem fair_l1 {z:S23} {v:List S23}:∀ d i b,i + d = p.length → Best p u fix r i b → Ev (fun k=>shares_net_fair.l2 k (bP (srch p u fix r d i b)).1 (u.length:Int) 0 p u (rts u.length z fix r) (tab u.length fix) (bP (srch p u fix r d i b)).2.1 (bP (srch p u fix r d i b)).2.2) v →
  Ev (fun k=>shares_net_fair.l1 k (bP b).1 (p.length:Int) (i:Int) p u (rts u.length z fix r) (tab u.length fix) (bP b).2.1 (bP b).2.2) v:=by
 intro d
 have h5:=hN.p5
 induction d with
 | zero =>
  intro i b hi hB hv
  refine Ev.step (fun k=>?_) hv
  rw [shares_net_fair.l1,if_neg (by omega)];rfl
 | succ d ih =>
  intro i b hi hB hv
  have hil:i < p.length:=by omega
  have hn:=ih (i + 1) (better p u fix r i b) (by omega) (hB.next hil) hv
  refine Ev.step (fun k=>by rw [shares_net_fair.l1,if_pos (by omega),wrap_succ (by omega)]) (Ev.bind (ev_raise hN hF (z:=z) hil) ?_)
  unfold raiseV
  unfold better at hn
  by_cases hw:wN (netOf p u) u fix i u.length = 0
  ·rw [if_pos hw] at hn ⊢
   exact Ev.congr (fun k=>if_neg (by decide)) hn
  ·rw [if_neg hw] at hn ⊢
   refine Ev.congr (fun k=>if_pos rfl) ?_
   cases b with
   | none=>exact Ev.congr (fun k=>if_pos (by decide)) hn
   | some am =>
    obtain ⟨h1,h2,h3,_⟩:=hB
    have hc:=ev_compare (mu_fits hN hF hil hw h1 h2)
    rw [← h3] at hc
    refine Ev.congr (fun k=>if_neg (show ¬ ((am.1:Int) < 0) by omega)) (Ev.bind hc ?_)
    have hn':Ev (fun k=>shares_net_fair.l1 k (bP (if muq p u fix r i < am.2 then some (i,muq p u fix r i) else some am)).1 (p.length:Int) ((i + 1:Nat):Int) p u (rts u.length z fix r) (tab u.length fix) (bP (if muq p u fix r i < am.2 then some (i,muq p u fix r i) else some am)).2.1 (bP (if muq p u fix r i < am.2 then some (i,muq p u fix r i) else some am)).2.2) v:=hn
    by_cases hlt:muq p u fix r i < am.2
    ·rw [if_pos hlt] at hn'
     exact Ev.congr (fun k=>if_pos ((cmpR_lt _ _).2 hlt)) hn'
    ·rw [if_neg hlt] at hn'
     exact Ev.congr (fun k=>if_neg (fun h=>hlt ((cmpR_lt _ _).1 h))) hn'
theorem fair_l2 {z:S23} {v:List S23} {am:Nat × Rat} (hB:Best p u fix r p.length (some am)) (hv:Ev (fun k=>shares_net_fair.l0 k p u (rts u.length z (fixN p u fix am.1) (rN p u fix r am.1 am.2)) (tab u.length (fixN p u fix am.1))) v):∀ d i,i + d = u.length →
  Ev (fun k=>shares_net_fair.l2 k (am.1:Int) (u.length:Int) (i:Int) p u (rts u.length z (fixI p u fix am.1 i) (rI p u fix r am.1 am.2 i)) (tab u.length (fixI p u fix am.1 i)) am.2.num (am.2.den:Int)) v:=by
 intro d
 have h6:=hN.u6
 induction d with
 | zero =>
  intro i hi
  obtain rfl:i = u.length:=by omega
  rw [last_lists.1,(last_lists (r:=r) (z:=z) (m:=am.2)).2]
  refine Ev.step (fun k=>?_) hv
  rw [shares_net_fair.l2,if_neg (by omega)]
 | succ d ih =>
  intro i hi
  have hil:i < u.length:=by omega
  have hn:=ih (i + 1) (by omega)
  have hlr:(rts u.length z (fixI p u fix am.1 i) (rI p u fix r am.1 am.2 i)).length = u.length:=tab_length _ _
  have hfi:fixI p u fix am.1 i i = fix i:=by unfold fixI;rw [if_neg (by omega)]
  refine Ev.step (fun k=>by rw [shares_net_fair.l2,if_pos (by omega),if_pos (by omega),tab_length,if_pos (by omega),tab_b hil,hfi,hlr,wrap_succ (by omega)]) ?_
  by_cases hf:fix i = true
  ·rw [(next_same (fun h=>by rw [hf] at h;cases h.1)).1,(next_same (r:=r) (z:=z) (m:=am.2) (fun h=>by rw [hf] at h;cases h.1)).2] at hn
   exact Ev.congr (fun k=>if_pos hf) hn
  ·have hf':fix i = false:=by simpa using hf
   refine Ev.congr (fun k=>if_neg hf) (Ev.bind (ev_hasN hN hil am.1) ?_)
   by_cases hh:(netOf p u).has i am.1 = true
   ·rw [(next_set ⟨hf',hh⟩).1,(next_set (r:=r) (z:=z) (m:=am.2) ⟨hf',hh⟩).2] at hn
    obtain ⟨h1,h2,h3,_⟩:=hB
    have hmu:=mu_num hN hF h1 h2
    rw [← h3] at hmu
    obtain ⟨_,e2,_,e4⟩:=w_nat hN hil
    have ht:=ev_times am.2 (n:=(rd_T45 u (i:Int)).f0) (by
     rw [Int.natAbs_mul]
     exact Nat.lt_of_le_of_lt (Nat.mul_le_mul hmu.1 (show (rd_T45 u (i:Int)).f0.natAbs ≤ 4 by omega)) (by decide)) (by omega)
    exact Ev.congr (fun k=>if_pos hh) (Ev.congr (fun k=>if_pos (by omega)) (Ev.bind ht (Ev.congr (fun k=>if_pos (by omega)) hn)))
   ·rw [(next_same (fun h=>hh h.2)).1,(next_same (r:=r) (z:=z) (m:=am.2) (fun h=>hh h.2)).2] at hn
    exact Ev.congr (fun k=>if_neg hh) hn
end
theorem index_b {m:Nat} (hm:m ≤ 1000000) (fix:Nat → Bool):∀ d i,i + d = m → ∃ r:Int,(0 ≤ r ↔ ∃ v,i ≤ v ∧ v < m ∧ fix v = false) ∧ Ev (fun k=>slices_Index_bool_bool.l0 k (tab m fix) false (m:Int) (i:Int)) r:=by
 intro d
 induction d with
 | zero =>
  intro i hi
  refine ⟨-1,⟨fun h=>by omega,fun ⟨v,h1,h2,_⟩=>by omega⟩,Ev.step (f:=fun _=>some (-1)) (fun k=>?_) (Ev.now _)⟩
  rw [slices_Index_bool_bool.l0,if_neg (by omega)]
 | succ d ih =>
  intro i hi
  have hil:i < m:=by omega
  cases hf:fix i with
  | false =>
   refine ⟨(i:Int),⟨fun _=>⟨i,Nat.le_refl _,hil,hf⟩,fun _=>by omega⟩,Ev.step (f:=fun _=>some (i:Int)) (fun k=>?_) (Ev.now _)⟩
   rw [slices_Index_bool_bool.l0,if_pos (by omega),if_pos (by omega),tab_length,if_pos (by omega),tab_b hil,hf,if_pos (by decide)]
  | true =>
   obtain ⟨r,h1,h2⟩:=ih (i + 1) (by omega)
   refine ⟨r,h1.trans ⟨fun ⟨v,a,b,c⟩=>⟨v,by omega,b,c⟩,fun ⟨v,a,b,c⟩=>⟨v,?_,b,c⟩⟩,Ev.step (fun k=>?_) h2⟩
   ·by_cases e:v = i
    ·subst e;rw [hf] at c;cases c
    ·omega
   ·rw [slices_Index_bool_bool.l0,if_pos (by omega),if_pos (by omega),tab_length,if_pos (by omega),tab_b hil,hf,if_neg (by decide),wrap_succ (by omega)]
theorem ev_contains_b {m:Nat} (hm:m ≤ 1000000) (fix:Nat → Bool):Ev (fun k=>slices_Contains_bool_bool.f k (tab m fix) false) (decide (0 < cnt m fix)):=by
 obtain ⟨r,h1,h2⟩:=index_b hm fix m 0 (by omega)
 unfold slices_Contains_bool_bool.f slices_Index_bool_bool.f
 rw [tab_length]
 refine Ev.bind h2 ?_
 have e:decide (r ≥ 0) = decide (0 < cnt m fix):=by
  rw [decide_eq_decide]
  refine h1.trans ⟨fun ⟨v,_,hv,hf⟩=>cnt_pos hv hf,fun h=>?_⟩
  obtain ⟨v,hv,hf⟩:=List.countP_pos_iff.1 h
  exact ⟨v,Nat.zero_le _,List.mem_range.1 hv,by simpa using hf⟩
 rw [e]
 exact Ev.now _
structure FairR (p:List Int) (u:List S45) (x:List Rat):Prop where
 len:x.length = u.length
 fair:(netOf p u).Fair (rt x)
 bd:∃ D,0 < D ∧ D ≤ 2949120 ∧ ∀ v,v < u.length → 0 ≤ rt x v ∧ rt x v ≤ ((200:Nat):Rat) ∧ (rt x v).den ∣ D
theorem load_congr {N:Net} {r s:Nat → Rat} (h:∀ v,v < N.m → r v = s v) (q:Nat):N.load r q = N.load s q:=S_congr fun v hv=>by rw [h v hv]
theorem Fair_congr {N:Net} {r s:Nat → Rat} (h:∀ v,v < N.m → r v = s v) (hr:N.Fair r):N.Fair s:=by
 refine ⟨fun q hq=>by rw [← load_congr h];exact hr.1 q hq,fun v hv=>?_⟩
 obtain ⟨q,h1,h2,h3,h4⟩:=hr.2 v hv
 refine ⟨q,h1,h2,by rw [← load_congr h];exact h3,fun w hw hh=>?_⟩
 rw [← h v hv,← h w hw]
 exact h4 w hw hh
section
variable {p:List Int} {u:List S45} (hN:IsN p u)
include hN
theorem FS.done {fix:Nat → Bool} {r:Nat → Rat} {lam:Rat} {D:Nat} (hF:FS p u fix r lam D) (hc:¬ 0 < cnt u.length fix) (z:S23):FairR p u (tab u.length r) ∧ rts u.length z fix r = encL (tab u.length r):=by
 have hall:=cnt_zero (m:=u.length) (fix:=fix) (by omega)
 refine ⟨⟨tab_length _ _,?_,D,hF.d0,hF.D_le hN,fun v hv=>?_⟩,?_⟩
 ·exact Fair_congr (fun v hv=>(rt_tab hv).symm) (hF.fill.fair hall)
 ·rw [rt_tab hv];exact hF.rb v hv (hall v hv)
 ·rw [encL_tab];exact tab_congr fun v hv=>by rw [if_pos (hall v hv)]
theorem fair_l0 (z:S23):∀ c (fix:Nat → Bool) (r:Nat → Rat) (lam:Rat) (D:Nat),FS p u fix r lam D → cnt u.length fix ≤ c → ∃ x,FairR p u x ∧ Ev (fun k=>shares_net_fair.l0 k p u (rts u.length z fix r) (tab u.length fix)) (encL x):=by
 intro c
 have h6:=hN.u6
 induction c with
 | zero =>
  intro fix r lam D hF hc
  obtain ⟨h1,h2⟩:=hF.done hN (by omega) z
  refine ⟨_,h1,?_⟩
  rw [h2]
  refine Ev.step (fun k=>by rw [shares_net_fair.l0]) (Ev.bind (ev_contains_b (by omega) fix) ?_)
  rw [decide_eq_false (by omega)]
  exact Ev.congr (fun k=>if_neg (by decide)) (Ev.now _)
 | succ c ih =>
  intro fix r lam D hF hc
  by_cases h0:0 < cnt u.length fix
  ·obtain ⟨am,hs,hB⟩:=some_best hN hF h0
   obtain ⟨hF2,hlt⟩:=hF.next hN hB
   obtain ⟨x,hx,hv⟩:=ih _ _ _ _ hF2 (by omega)
   refine ⟨x,hx,Ev.step (fun k=>by rw [shares_net_fair.l0]) (Ev.bind (ev_contains_b (by omega) fix) ?_)⟩
   rw [decide_eq_true h0]
   refine Ev.congr (fun k=>if_pos rfl) (fair_l1 hN hF p.length 0 none (by omega) (fun q hq=>by omega) ?_)
   rw [hs]
   have h:=fair_l2 hN hF hB hv u.length 0 (by omega)
   rw [first_lists.1,(first_lists (r:=r) (z:=z) (m:=am.2)).2] at h
   exact h
  ·exact ih fix r lam D hF (by omega)
theorem FS.start (r:Nat → Rat):FS p u (fun _=>false) r 0 1 where
 fill:=Net.Fill.start (fun q hq=>(cap_bd hN hq).1) r
 lam0:=Rat.le_refl
 rb:=fun v _ h=>by cases h
 d0:=Nat.one_pos
 dd:=by
  have h6:=hN.u6
  have h1:=cnt_m u.length (fun _=>false)
  have h2:=dens_mono (a:=cnt u.length (fun _=>false)) (b:=6) (by omega)
  rw [dens_six] at h2
  omega
theorem ev_fair:∃ x,FairR p u x ∧ Ev (fun k=>shares_net_fair.f k p u) (encL x):=by
 have h6:=hN.u6
 obtain ⟨x,hx,hv⟩:=fair_l0 hN z23 (cnt u.length (fun _=>false)) (fun _=>false) (fun _=>0) 0 1 (FS.start hN _) (Nat.le_refl _)
 refine ⟨x,hx,?_⟩
 unfold shares_net_fair.f
 refine Ev.congr (fun k=>if_pos (by omega)) (Ev.congr (fun k=>if_pos (by omega)) (Ev.congr (fun k=>if_pos (by omega)) ?_))
 rw [Int.toNat_natCast,tab_rep,tab_rep]
 exact hv
end
end Go.Proofs.Ytjohcjfmlhihbaa.P
namespace Go.Proofs.Ytjohcjfmlhihbaa.G
open Go.RowKit Go.Proofs.YtjohcjfmlhihbaaW.PrintWords Go.Proofs.YtjohcjfmlhihbaaW.PrintLast Go.Proofs.YtjohcjfmlhihbaaW.PrintMore
set_option maxHeartbeats 8000000
set_option maxRecDepth 100000
attribute [local go_sem] cond_true cond_false fld23_0 fld23_1 fld45_0 fld45_1 fld109_0 fld109_1 fld94_0 fld94_1 max2_int min2_int max_two min_two max_three min_three max_four min_four
mutual
def numnahref07_Fair.l0:Nat → List Int → List (S45) → List (S23) → List Bool → Int → Option ((List (S23)))
 | 0,_,_,_,_,_=>none
 | k + 1,x0,x1,x5,x6,x7=>if x7 < (x1.length:Int) then ((numnahref07_Whole.f 0).bind fun D9=>(if 0 ≤ x7 then (if x7 < (x5.length:Int) then (numnahref07_Fair.l0 k x0 x1 (x5.set (x7:Int).toNat (⟨D9.1,D9.2⟩:S23)) x6 (wrap64 (x7 + 1))) else (none)) else (none))) else (numnahref07_Fair.l1 k x0 x1 x5 x6 (x1.length:Int))
def numnahref07_Fair.l1:Nat → List Int → List (S45) → List (S23) → List Bool → Int → Option ((List (S23)))
 | 0,_,_,_,_,_=>none
 | k + 1,x0,x1,x5,x6,x8=>if x8 > 0 then (numnahref07_Fair.l2 k x0 x1 x5 x6 x8 (-1) 0 0 0) else (some x5)
def numnahref07_Fair.l2:Nat → List Int → List (S45) → List (S23) → List Bool → Int → Int → Int → Int → Int → Option ((List (S23)))
 | 0,_,_,_,_,_,_,_,_,_=>none
 | k + 1,x0,x1,x5,x6,x8,q3,o4,e0,e1=>if o4 < (x0.length:Int) then (if 0 ≤ o4 then ((numnahref07_Whole.f (rd x0 o4)).bind fun E0=>(numnahref07_Fair.l3 k x0 x1 x5 x6 x8 q3 o4 0 0 e0 e1 E0.1 E0.2)) else (none)) else (numnahref07_Fair.l4 k x0 x1 x5 x6 x8 q3 0 e0 e1)
def numnahref07_Fair.l3:Nat → List Int → List (S45) → List (S23) → List Bool → Int → Int → Int → Int → Int → Int → Int → Int → Int → Option ((List (S23)))
 | 0,_,_,_,_,_,_,_,_,_,_,_,_,_=>none
 | k + 1,x0,x1,x5,x6,x8,q3,o4,z2,m1,e0,e1,i2,i3=>if m1 < (x1.length:Int) then (if 0 ≤ m1 then ((numnahref07_Has.f k ((rd_T45 x1 m1).f0) ((rd_T45 x1 m1).f1) o4).bind fun C8=>(if C8 = true then (if m1 < (x6.length:Int) then (numnahref07_Fair.j4 k x0 x1 x5 x6 x8 q3 o4 z2 m1 (rdOf false x6 m1) e0 e1 i2 i3) else (none)) else (numnahref07_Fair.j4 k x0 x1 x5 x6 x8 q3 o4 z2 m1 false e0 e1 i2 i3))) else (none)) else (if z2 = 0 then (numnahref07_Fair.l2 k x0 x1 x5 x6 x8 q3 (wrap64 (o4 + 1)) e0 e1) else ((numnahref07_Reduced.f k i2 (wrap64 (i3 * z2))).bind fun q4=>(if q3 < 0 then (numnahref07_Fair.l2 k x0 x1 x5 x6 x8 o4 (wrap64 (o4 + 1)) q4.1 q4.2) else ((numnahref07_Less.f q4.1 q4.2 e0 e1).bind fun C9=>(if C9 = true then (numnahref07_Fair.l2 k x0 x1 x5 x6 x8 o4 (wrap64 (o4 + 1)) q4.1 q4.2) else (numnahref07_Fair.l2 k x0 x1 x5 x6 x8 q3 (wrap64 (o4 + 1)) e0 e1))))))
def numnahref07_Fair.j4:Nat → List Int → List (S45) → List (S23) → List Bool → Int → Int → Int → Int → Int → Bool → Int → Int → Int → Int → Option ((List (S23)))
 | 0,_,_,_,_,_,_,_,_,_,_,_,_,_,_=>none
 | k + 1,x0,x1,x5,x6,x8,q3,o4,z2,m1,x66,e0,e1,i2,i3=>if x66 = true then (if 0 ≤ m1 then (if m1 < (x5.length:Int) then ((numnahref07_Sub.f k i2 i3 ((rd_T23 x5 m1).f0) ((rd_T23 x5 m1).f1)).bind fun q5=>(if m1 < (x1.length:Int) then ((numnahref07_Has.f k ((rd_T45 x1 m1).f0) ((rd_T45 x1 m1).f1) o4).bind fun D0=>(if D0 = true then (if m1 < (x6.length:Int) then (if rdOf false x6 m1 = true then (numnahref07_Fair.l3 k x0 x1 x5 x6 x8 q3 o4 z2 (wrap64 (m1 + 1)) e0 e1 q5.1 q5.2) else (numnahref07_Fair.l3 k x0 x1 x5 x6 x8 q3 o4 (wrap64 (z2 + ((rd_T45 x1 m1).f0))) (wrap64 (m1 + 1)) e0 e1 q5.1 q5.2)) else (none)) else (numnahref07_Fair.l3 k x0 x1 x5 x6 x8 q3 o4 z2 (wrap64 (m1 + 1)) e0 e1 q5.1 q5.2))) else (none))) else (none)) else (none)) else (if 0 ≤ m1 then (if m1 < (x1.length:Int) then ((numnahref07_Has.f k ((rd_T45 x1 m1).f0) ((rd_T45 x1 m1).f1) o4).bind fun D1=>(if D1 = true then (if m1 < (x6.length:Int) then (if rdOf false x6 m1 = true then (numnahref07_Fair.l3 k x0 x1 x5 x6 x8 q3 o4 z2 (wrap64 (m1 + 1)) e0 e1 i2 i3) else (numnahref07_Fair.l3 k x0 x1 x5 x6 x8 q3 o4 (wrap64 (z2 + ((rd_T45 x1 m1).f0))) (wrap64 (m1 + 1)) e0 e1 i2 i3)) else (none)) else (numnahref07_Fair.l3 k x0 x1 x5 x6 x8 q3 o4 z2 (wrap64 (m1 + 1)) e0 e1 i2 i3))) else (none)) else (none))
def numnahref07_Fair.l4:Nat → List Int → List (S45) → List (S23) → List Bool → Int → Int → Int → Int → Int → Option ((List (S23)))
 | 0,_,_,_,_,_,_,_,_,_=>none
 | k + 1,x0,x1,x5,x6,x8,q3,x2,e0,e1=>if x2 < (x1.length:Int) then (if 0 ≤ x2 then ((numnahref07_Has.f k ((rd_T45 x1 x2).f0) ((rd_T45 x1 x2).f1) q3).bind fun D2=>(if D2 = true then (if x2 < (x6.length:Int) then (if rdOf false x6 x2 = true then (numnahref07_Fair.l4 k x0 x1 x5 x6 x8 q3 (wrap64 (x2 + 1)) e0 e1) else ((numnahref07_Reduced.f k (wrap64 (e0 * ((rd_T45 x1 x2).f0))) e1).bind fun n8=>(if x2 < (x5.length:Int) then (numnahref07_Fair.l4 k x0 x1 (x5.set (x2:Int).toNat (⟨n8.1,n8.2⟩:S23)) (x6.set (x2:Int).toNat true) (wrap64 (x8 - 1)) q3 (wrap64 (x2 + 1)) e0 e1) else (none)))) else (none)) else (numnahref07_Fair.l4 k x0 x1 x5 x6 x8 q3 (wrap64 (x2 + 1)) e0 e1))) else (none)) else (numnahref07_Fair.l1 k x0 x1 x5 x6 x8)
end
def numnahref07_Fair.f (k:Nat) (l0:List Int) (l1:List (S45)):Option ((List (S23))):=if 0 ≤ (l1.length:Int) then (if ((l1.length:Int):Int).toNat ≤ 17592186044416 then (if ((l1.length:Int):Int).toNat ≤ 281474976710656 then (numnahref07_Fair.l0 k l0 l1 (List.replicate ((l1.length:Int):Int).toNat z23) (List.replicate ((l1.length:Int):Int).toNat false) 0) else (none)) else (none)) else (none)
theorem numnahref07_Fair.mono_l:∀ k,(∀ y0 y1 y2 y3 y4,LeO (numnahref07_Fair.l0 k y0 y1 y2 y3 y4) (numnahref07_Fair.l0 (k + 1) y0 y1 y2 y3 y4)) ∧ (∀ y0 y1 y2 y3 y4,LeO (numnahref07_Fair.l1 k y0 y1 y2 y3 y4) (numnahref07_Fair.l1 (k + 1) y0 y1 y2 y3 y4)) ∧ (∀ y0 y1 y2 y3 y4 y5 y6 y7 y8,LeO (numnahref07_Fair.l2 k y0 y1 y2 y3 y4 y5 y6 y7 y8) (numnahref07_Fair.l2 (k + 1) y0 y1 y2 y3 y4 y5 y6 y7 y8)) ∧ (∀ y0 y1 y2 y3 y4 y5 y6 y7 y8 y9 G7 G8 G9,LeO (numnahref07_Fair.l3 k y0 y1 y2 y3 y4 y5 y6 y7 y8 y9 G7 G8 G9) (numnahref07_Fair.l3 (k + 1) y0 y1 y2 y3 y4 y5 y6 y7 y8 y9 G7 G8 G9)) ∧ (∀ y0 y1 y2 y3 y4 y5 y6 y7 y8 y9 G7 G8 G9 y13,LeO (numnahref07_Fair.j4 k y0 y1 y2 y3 y4 y5 y6 y7 y8 y9 G7 G8 G9 y13) (numnahref07_Fair.j4 (k + 1) y0 y1 y2 y3 y4 y5 y6 y7 y8 y9 G7 G8 G9 y13)) ∧ (∀ y0 y1 y2 y3 y4 y5 y6 y7 y8,LeO (numnahref07_Fair.l4 k y0 y1 y2 y3 y4 y5 y6 y7 y8) (numnahref07_Fair.l4 (k + 1) y0 y1 y2 y3 y4 y5 y6 y7 y8))
 | 0=>⟨fun _ _ _ _ _ r h=>by simp [numnahref07_Fair.l0] at h,fun _ _ _ _ _ r h=>by simp [numnahref07_Fair.l1] at h,fun _ _ _ _ _ _ _ _ _ r h=>by simp [numnahref07_Fair.l2] at h,fun _ _ _ _ _ _ _ _ _ _ _ _ _ r h=>by simp [numnahref07_Fair.l3] at h,fun _ _ _ _ _ _ _ _ _ _ _ _ _ _ r h=>by simp [numnahref07_Fair.j4] at h,fun _ _ _ _ _ _ _ _ _ r h=>by simp [numnahref07_Fair.l4] at h⟩
 | k + 1=>by
  obtain ⟨E1,E2,E3,E4,E5,E6⟩:=numnahref07_Fair.mono_l k
  refine ⟨?_,?_,?_,?_,?_,?_⟩
  ·intro y0 y1 y2 y3 y4
   unfold numnahref07_Fair.l0
   repeat' first
   | (with_reducible first | exact E1 _ _ _ _ _ | exact E2 _ _ _ _ _ | exact E3 _ _ _ _ _ _ _ _ _ | exact E4 _ _ _ _ _ _ _ _ _ _ _ _ _ | exact E5 _ _ _ _ _ _ _ _ _ _ _ _ _ _ | exact E6 _ _ _ _ _ _ _ _ _ | exact numnahref07_Has.mono _ _ _ _ | exact numnahref07_Reduced.mono _ _ _ | exact numnahref07_Sub.mono _ _ _ _ _ | exact LeO.refl _ | exact LeO.none _ | refine LeO.ite ?_ ?_ | refine LeO.bind ?_ (fun _=>?_))
   | exact LeO.none _ | refine LeO.ite ?_ ?_ | refine LeO.bind ?_ (fun _=>?_)
  ·intro y0 y1 y2 y3 y4
   unfold numnahref07_Fair.l1
   repeat' first
   | (with_reducible first | exact E1 _ _ _ _ _ | exact E2 _ _ _ _ _ | exact E3 _ _ _ _ _ _ _ _ _ | exact E4 _ _ _ _ _ _ _ _ _ _ _ _ _ | exact E5 _ _ _ _ _ _ _ _ _ _ _ _ _ _ | exact E6 _ _ _ _ _ _ _ _ _ | exact numnahref07_Has.mono _ _ _ _ | exact numnahref07_Reduced.mono _ _ _ | exact numnahref07_Sub.mono _ _ _ _ _ | exact LeO.refl _ | exact LeO.none _ | refine LeO.ite ?_ ?_ | refine LeO.bind ?_ (fun _=>?_))
   | exact LeO.none _ | refine LeO.ite ?_ ?_ | refine LeO.bind ?_ (fun _=>?_)
  ·intro y0 y1 y2 y3 y4 y5 y6 y7 y8
   unfold numnahref07_Fair.l2
   repeat' first
   | (with_reducible first | exact E1 _ _ _ _ _ | exact E2 _ _ _ _ _ | exact E3 _ _ _ _ _ _ _ _ _ | exact E4 _ _ _ _ _ _ _ _ _ _ _ _ _ | exact E5 _ _ _ _ _ _ _ _ _ _ _ _ _ _ | exact E6 _ _ _ _ _ _ _ _ _ | exact numnahref07_Has.mono _ _ _ _ | exact numnahref07_Reduced.mono _ _ _ | exact numnahref07_Sub.mono _ _ _ _ _ | exact LeO.refl _ | exact LeO.none _ | refine LeO.ite ?_ ?_ | refine LeO.bind ?_ (fun _=>?_))
   | exact LeO.none _ | refine LeO.ite ?_ ?_ | refine LeO.bind ?_ (fun _=>?_)
  ·intro y0 y1 y2 y3 y4 y5 y6 y7 y8 y9 G7 G8 G9
   unfold numnahref07_Fair.l3
   repeat' first
   | (with_reducible first | exact E1 _ _ _ _ _ | exact E2 _ _ _ _ _ | exact E3 _ _ _ _ _ _ _ _ _ | exact E4 _ _ _ _ _ _ _ _ _ _ _ _ _ | exact E5 _ _ _ _ _ _ _ _ _ _ _ _ _ _ | exact E6 _ _ _ _ _ _ _ _ _ | exact numnahref07_Has.mono _ _ _ _ | exact numnahref07_Reduced.mono _ _ _ | exact numnahref07_Sub.mono _ _ _ _ _ | exact LeO.refl _ | exact LeO.none _ | refine LeO.ite ?_ ?_ | refine LeO.bind ?_ (fun _=>?_))
   | exact LeO.none _ | refine LeO.ite ?_ ?_ | refine LeO.bind ?_ (fun _=>?_)
  ·intro y0 y1 y2 y3 y4 y5 y6 y7 y8 y9 G7 G8 G9 y13
   unfold numnahref07_Fair.j4
   repeat' first
   | (with_reducible first | exact E1 _ _ _ _ _ | exact E2 _ _ _ _ _ | exact E3 _ _ _ _ _ _ _ _ _ | exact E4 _ _ _ _ _ _ _ _ _ _ _ _ _ | exact E5 _ _ _ _ _ _ _ _ _ _ _ _ _ _ | exact E6 _ _ _ _ _ _ _ _ _ | exact numnahref07_Has.mono _ _ _ _ | exact numnahref07_Reduced.mono _ _ _ | exact numnahref07_Sub.mono _ _ _ _ _ | exact LeO.refl _ | exact LeO.none _ | refine LeO.ite ?_ ?_ | refine LeO.bind ?_ (fun _=>?_))
   | exact LeO.none _ | refine LeO.ite ?_ ?_ | refine LeO.bind ?_ (fun _=>?_)
  intro y0 y1 y2 y3 y4 y5 y6 y7 y8
  unfold numnahref07_Fair.l4
  repeat' first
  | (with_reducible first | exact E1 _ _ _ _ _ | exact E2 _ _ _ _ _ | exact E3 _ _ _ _ _ _ _ _ _ | exact E4 _ _ _ _ _ _ _ _ _ _ _ _ _ | exact E5 _ _ _ _ _ _ _ _ _ _ _ _ _ _ | exact E6 _ _ _ _ _ _ _ _ _ | exact numnahref07_Has.mono _ _ _ _ | exact numnahref07_Reduced.mono _ _ _ | exact numnahref07_Sub.mono _ _ _ _ _ | exact LeO.refl _ | exact LeO.none _ | refine LeO.ite ?_ ?_ | refine LeO.bind ?_ (fun _=>?_))
  | exact LeO.none _ | refine LeO.ite ?_ ?_ | refine LeO.bind ?_ (fun _=>?_)
theorem numnahref07_Fair.mono:∀ a0 a1 k,LeO (numnahref07_Fair.f k a0 a1) (numnahref07_Fair.f (k + 1) a0 a1):=by
 intro a0 a1 k
 obtain ⟨E1,E2,E3,E4,E5,E6⟩:=numnahref07_Fair.mono_l k
 unfold numnahref07_Fair.f
 repeat' first
   | (with_reducible first | exact E1 _ _ _ _ _ | exact E2 _ _ _ _ _ | exact E3 _ _ _ _ _ _ _ _ _ | exact E4 _ _ _ _ _ _ _ _ _ _ _ _ _ | exact E5 _ _ _ _ _ _ _ _ _ _ _ _ _ _ | exact E6 _ _ _ _ _ _ _ _ _ | exact numnahref07_Has.mono _ _ _ _ | exact numnahref07_Reduced.mono _ _ _ | exact numnahref07_Sub.mono _ _ _ _ _ | exact LeO.refl _ | exact LeO.none _ | refine LeO.ite ?_ ?_ | refine LeO.bind ?_ (fun _=>?_))
   | exact LeO.none _ | refine LeO.ite ?_ ?_ | refine LeO.bind ?_ (fun _=>?_)
def numnahref07_Fair.T30:Bool × List (List Nat × List Nat):=(true,[([],[]),([],[]),([],[]),([2],[2]),([],[]),([],[]),([4,5],[4,5]),([6],[6]),([7],[7]),([3,8],[3,8]),([],[]),([10],[10]),([9,11],[9,11]),([0,1,0,1,2,3,4,5,6,7,8,9,10,11,12],[0,1]),([13,12,12,0,1,2,3,4,5,6,7,8,9,10,11,12],[12,13])])
def numnahref07_Fair.B30:List Nat:=[0,0,0,4,0,0,48,112,240,508,0,1024,4092,8191,16383]
theorem numnahref07_Fair.tab30:rtab .any (opsOf Try.f42 30) = numnahref07_Fair.T30:=by kernel_rfl
theorem numnahref07_Fair.bits30:waitsOk numnahref07_Fair.T30.2 numnahref07_Fair.B30 = true:=by kernel_rfl
theorem numnahref07_Fair.calls (k:Nat) (A0:Option Addr) (c0:Nat) (l0:List Int) (A1:Option Addr) (c1:Nat) (l1:List (S45)) (r:List (S23)) (w:World) (hr0:Kd.C (Kd.int .i64) w A0 l0.length l0) (hc0:l0.length ≤ c0) (hr1:Kd.C k45 w A1 l1.length l1) (hc1:l1.length ≤ c1) (h:numnahref07_Fair.f k l0 l1 = some r) :
  Calls Try.prog 42 #[.slice A0 l0.length c0,.slice A1 l1.length c1] w fun e w'=>∃ v0_:Value,e = .returned (v0_) ∧ Kd.R k23 23 w' w.heap.size (fun _=>True) v0_ r ∧ Below w.heap.size w w':=by
 have hu23:=Try.underlying23
 have hu45:=Try.underlying45
 have HR0:=A_ hr0
 have HC0:=A_ hc0
 clear hr0 hc0
 have t1:=A_ hr1
 have HC1:=A_ hc1
 clear hr1 hc1
 have HB:=A_ (Below.refl w.heap.size w)
 have H:(if 0 ≤ (l1.length:Int) then (if ((l1.length:Int):Int).toNat ≤ 17592186044416 then (if ((l1.length:Int):Int).toNat ≤ 281474976710656 then (numnahref07_Fair.l0 k l0 l1 (List.replicate ((l1.length:Int):Int).toNat z23) (List.replicate ((l1.length:Int):Int).toNat false) 0) else (none)) else (none)) else (none)) = some r:=h
 clear h
 replace H:=gd H
 obtain ⟨c3,H⟩:=H
 have c3b0:=eq_true c3
 have c3b1:=decide_eq_true c3
 clear c3
 replace H:=gd H
 obtain ⟨c4,H⟩:=H
 have c4b0:=eq_true c4
 have c4b1:=decide_eq_true c4
 clear c4
 obtain ⟨y833,z3⟩:∃ y_:List (S23),y_ = (List.replicate ((l1.length:Int):Int).toNat z23):=⟨_,rfl⟩
 rw [← z3] at H
 have E7:=A_ z3
 clear z3
 replace H:=gd H
 obtain ⟨c5,H⟩:=H
 have c5b0:=eq_true c5
 have c5b1:=decide_eq_true c5
 clear c5
 obtain ⟨H0,z4⟩:∃ y_:List Bool,y_ = (List.replicate ((l1.length:Int):Int).toNat false):=⟨_,rfl⟩
 rw [← z4] at H
 have E8:=A_ z4
 clear z4
 have H':=A_ H
 clear H
 go_enter Try.func42,Try.ntmps42
 go_wp2_with (first | ((with_reducible refine gate_dst (N:=19) rfl ?_);refine Kd.R_make k23 _ 23 rfl (N:=19) rfl 35 _ _ rfl (l1.length:Int) rfl rfl Try.underlying35 (.agg #[(.int .i64 0),(.int .i64 0)]) 16 info23 rfl (by decide) (by omega) z23 (ok:=fun _=>True) (okp:=fun _=>True) (k23_mkM _ _ _ z23 ) (fun _ hk=>hk) trivial (of_decide_eq_true (by first | (with_reducible assumption) | assumption)) (Nat.le_trans (Nat.mul_le_mul_right _ (of_decide_eq_true (by first | (with_reducible assumption) | assumption):(l1.length:Int).toNat ≤ 17592186044416)) (by omega)) (Below.refl _ _) (Nat.le_refl _) ?_;intro x3 w6 K9 hb hg_ hnew_;clear hg_ hnew_;(first | rw [← E7.out] at K9 | (simp only [Int.reduceToNat] at K9;rw [← E7.out] at K9));have z5:=A_ (Kd.R_lower K9 (below_size (bl HB)));replace HB:=bB HB hb;clear hb K9) | ((with_reducible refine gate_dst (N:=22) rfl ?_);refine Kd.R_make Kd.bool _ 4 rfl (N:=22) rfl 115 _ _ rfl (l1.length:Int) rfl rfl Try.underlying115 (.bool false) 1 info4 rfl (by decide) (by omega) false (ok:=fun _=>True) (okp:=fun _=>True) rfl (fun _ hk=>hk) trivial (of_decide_eq_true (by first | (with_reducible assumption) | assumption)) (Nat.le_trans (Nat.mul_le_mul_right _ (of_decide_eq_true (by first | (with_reducible assumption) | assumption):(l1.length:Int).toNat ≤ 281474976710656)) (by omega)) (Below.refl _ _) (Nat.le_refl _) ?_;intro x4 w8 L0 hb hg_ hnew_;clear hg_ hnew_;(first | rw [← E8.out] at L0 | (simp only [Int.reduceToNat] at L0;rw [← E8.out] at L0));have L1:=A_ (Kd.R_lower L0 (below_size (bl HB)));replace z5:=rB z5 hb;replace HB:=bB HB hb;clear hb L0))
 go_loopg [7] k (fun kq v7 w'=>∃ (m6:List (S23)) (j8:Int),v7 = .int .i64 j8 ∧ Aside0 (numnahref07_Fair.l0 kq l0 l1 m6 H0 j8 = some r) ∧ Aside0 (kq ≤ k) ∧ Aside0 (Kd.R k23 23 w' w.heap.size (fun _=>True) x3 m6) ∧ Aside0 (Kd.R Kd.bool 4 w' w.heap.size (fun _=>True) x4 H0) ∧ Aside0 (Below w.heap.size w w'))
 case atStart=>exact ⟨(y833),(0),(by first | rfl | (simp;done) | (simp [*];done)),H',⟨Nat.le_refl _⟩,⟨by (with_reducible repeat (first | apply Kd.R_alloc | apply Kd.R_drewN | apply Kd.R_drew));exact z5.out⟩,⟨by (with_reducible repeat (first | apply Kd.R_alloc | apply Kd.R_drewN | apply Kd.R_drew));exact L1.out⟩,⟨bl HB⟩⟩
 case round =>
  clear H'
  obtain ⟨m6,j8,rfl,HA,m2,b8,b9,HB⟩:=hrel
  cases gk with
  | zero=>exact absurd HA.out (by simp [numnahref07_Fair.l0])
  | succ k1 =>
   have H:=HA.out
   clear HA
   simp only [numnahref07_Fair.l0] at H
   by_cases c10:j8 < (l1.length:Int)
   ·rw [if_pos c10] at H
    have L2:=decide_eq_true c10
    clear c10
    replace H:=Option.bind_eq_some_iff.mp H
    obtain ⟨⟨x9,z0⟩,A110,H⟩:=H
    dsimp only at H
    have A11:=A_ A110
    clear A110
    replace H:=gd H
    obtain ⟨c12,H⟩:=H
    have c12b0:=decide_eq_true c12
    clear c12
    replace H:=gd H
    obtain ⟨c13,H⟩:=H
    have c13b0:=decide_eq_true c13
    clear c13
    obtain ⟨L3,z6⟩:∃ y_:List (S23),y_ = (m6.set (j8:Int).toNat (⟨x9,z0⟩:S23)):=⟨_,rfl⟩
    rw [← z6] at H
    have L4:=A_ z6
    clear z6
    have H':=A_ H
    clear H
    go_wp2_with (first | ((with_reducible refine gate_callee (f:=23) rfl ?_);refine gL (some 31) Try.func23 #[.int .i64 0] ?_;(with_reducible refine (numnahref07_Whole.calls 0 x9 z0 _ A11.out).mono ?_);rintro e H1 ⟨rfl,hb⟩;refine ⟨_,rfl,?_⟩;replace b8:=rB b8 hb;replace b9:=rB b9 hb;replace HB:=bB HB hb;(try clear hb);have p14:0 ≤ (j8:Int):=of_decide_eq_true (by first | (with_reducible assumption) | assumption);have q14:(j8:Int) < ((m6.length:Int):Int):=of_decide_eq_true (by first | (with_reducible assumption) | assumption);obtain ⟨q2,H2,L5,L6,gl14,cl14,L7⟩:=Kd.R_form b8.out (by omega);(first | cases L5 | (injection L5 with ea_ en_ ec_;(first | subst ea_ | (injection ea_ with ea_;subst ea_));subst ec_;clear en_));have L8:=A_ L6;have GG14:=A_ L7;clear L6 gl14 L7;obtain ⟨ce14,L9,M0,z7,z8⟩:=Kd.R_elem b8.out z23 (j8:Int) p14 q14;obtain rfl:=k23_openM M0;have hx14_0:H1.cell? ⟨q2,(j8:Int).toNat * 2,none⟩ = some (.int .i64 ((rd_T23 m6 j8).f0)):=z7 0 _ rfl;have hx14_1:H1.cell? ⟨q2,(j8:Int).toNat * 2 + 1,none⟩ = some (.int .i64 ((rd_T23 m6 j8).f1)):=z7 1 _ rfl;have hf14_0:H1.frozen? ⟨q2,(j8:Int).toNat * 2,none⟩ = false:=z8 0;have hf14_1:H1.frozen? ⟨q2,(j8:Int).toNat * 2 + 1,none⟩ = false:=z8 1;clear L9 z7 z8 M0;replace p14:=eq_true p14;replace q14:=eq_true q14;have M1:=A_ (show Kd.R k23 23 H1 w.heap.size (fun _=>True) (.slice (some ⟨q2,0,none⟩) m6.length H2) m6 from (rs b8));obtain ⟨ce16,E9,M2,t2,z9⟩:=Kd.R_elem M1.out z23 (j8:Int) (of_decide_eq_true (by first | (with_reducible assumption) | assumption)) (by have h_:(j8:Int) < ((m6.length:Int):Int):=of_decide_eq_true (by first | (with_reducible assumption) | assumption);first | exact h_ | (have e_:=(Kd.R_reads' b8.out).1;omega) | simpa using h_);obtain rfl:=k23_openM M2;have H3:=Kd.R_seg M1.out (j8:Int) (of_decide_eq_true (by first | (with_reducible assumption) | assumption)) (by have h_:(j8:Int) < ((m6.length:Int):Int):=of_decide_eq_true (by first | (with_reducible assumption) | assumption);first | exact h_ | (have e_:=(Kd.R_reads' b8.out).1;omega) | simpa using h_) (seg:=[.int .i64 x9,.int .i64 z0]) (j:=0) E9 t2 (show 2 ≤ 2 from by decide) (x':=(⟨x9,z0⟩:S23)) (k23_mkM _ _ _ (⟨x9,z0⟩:S23) ) (fun _ hk=>hk);have H4:=t2 0 _ rfl;(try simp only [show (k23).sz = 2 from rfl,Nat.mul_one,Nat.add_zero] at H4);have H5:=z9 0;(try simp only [show (k23).sz = 2 from rfl,Nat.mul_one,Nat.add_zero] at H5);have H6:=t2 1 _ rfl;(try simp only [show (k23).sz = 2 from rfl,Nat.mul_one,Nat.add_zero] at H6);have H7:=z9 1;(try simp only [show (k23).sz = 2 from rfl,Nat.mul_one,Nat.add_zero] at H7);clear E9 t2 z9 M2) | ((with_reducible refine gate_store (t:=23) (p:=32) rfl ?_);refine store_event (t:=23) (p:=32) (v:=?vo_w17) (w1:=((H1.setCell ⟨q2,(j8:Int).toNat * 2,none⟩ (.int .i64 x9)).setCell ⟨q2,(j8:Int).toNat * 2 + 1,none⟩ (.int .i64 z0))) ?hg ?ho ?hn ?hr ?_;(case ho=>rfl);(case hg=>rfl);(case hn=>rfl);(case hr=>first | (go_simp;done) | (go_simp;rfl));intro w17 hw;have hg:H1.grownBy w17 (some q2):=(by rw [hw];exact H3.2);have hp_:Kd.R k23 23 w17 w.heap.size (fun _=>True) (.slice (some ⟨q2,0,none⟩) m6.length H2) L3:=(by rw [hw,L4.out];exact H3.1);clear H3;replace b9:=A_ (Kd.R_over' (v:=(.slice (some ⟨q2,0,none⟩) m6.length H2)) (rs b9) (Kd.R_typed b8.out) (by decide) hg);replace b8:=A_ hp_;replace HB:=A_ ((by rw [hw];exact below_set (below_set (HB.out) L8.out) L8.out:Below w.heap.size w w17));clear hg hw hp_))
    go_roundg k1
    case measure=>have:=m2.out;omega
    case rel=>exact ⟨(L3),(wrap64 (j8 + 1)),(by first | rfl | (simp;done) | (simp [*];done)),H',⟨by have:=m2.out;omega⟩,⟨by (with_reducible repeat (first | apply Kd.R_alloc | apply Kd.R_drewN | apply Kd.R_drew));exact b8.out⟩,⟨by (with_reducible repeat (first | apply Kd.R_alloc | apply Kd.R_drewN | apply Kd.R_drew));exact b9.out⟩,⟨bl HB⟩⟩
   rw [if_neg c10] at H
   have L2:=decide_eq_false c10
   clear c10
   have H':=A_ H
   clear H
   go_wp2
   go_loopg [8] k1 (fun kq v8 w'=>∃ (e5:List (S23)) (e7:List Bool) (i0:Int),v8 = .int .i64 i0 ∧ Aside0 (numnahref07_Fair.l1 kq l0 l1 e5 e7 i0 = some r) ∧ Aside0 (kq ≤ k1) ∧ Aside0 (Kd.R k23 23 w' w.heap.size (fun _=>True) x3 e5) ∧ Aside0 (Kd.R Kd.bool 4 w' w.heap.size (fun _=>True) x4 e7) ∧ Aside0 (Below w.heap.size w w'))
   case atStart=>exact ⟨(m6),(H0),((l1.length:Int)),(by first | rfl | (simp;done) | (simp [*];done)),H',⟨Nat.le_refl _⟩,⟨by (with_reducible repeat (first | apply Kd.R_alloc | apply Kd.R_drewN | apply Kd.R_drew));exact b8.out⟩,⟨by (with_reducible repeat (first | apply Kd.R_alloc | apply Kd.R_drewN | apply Kd.R_drew));exact b9.out⟩,⟨bl HB⟩⟩
   case round =>
    clear H'
    obtain ⟨e5,e7,i0,rfl,HA,m4,b8,b9,HB⟩:=hrel
    cases gk with
    | zero=>exact absurd HA.out (by simp [numnahref07_Fair.l1])
    | succ k2 =>
     have H:=HA.out
     clear HA
     simp only [numnahref07_Fair.l1] at H
     by_cases K5:i0 > 0
     case neg =>
      rw [if_neg K5] at H
      have M3:=decide_eq_false K5
      clear K5
      obtain rfl:=Option.some.inj H
      go_wp2
      go_ret
      exact ⟨_,by first | rfl | (simp [errW_none,errW_some] <;> rfl) | (simp [*,errW_none,errW_some] <;> rfl),by (with_reducible repeat (first | apply Kd.R_alloc | apply Kd.R_drewN | apply Kd.R_drew));exact b8.out,bl HB⟩
     rw [if_pos K5] at H
     have M3:=decide_eq_true K5
     clear K5
     have H':=A_ H
     clear H
     go_wp2_with (first | ((with_reducible refine gate_dst (N:=9) rfl ?_);refine bx 9 #[.int .i64 0,.int .i64 0] 23 ?_;intro d3 hg w19 hbox hb;have b1:=A_ hbox;have M4:=gw hg HB;have GE842:=M4;replace b8:=A_ (Kd.R_below (Kd.R_elderB (rs b8) d3 (Nat.le_of_eq hg.symm)) hb);replace b9:=rB b9 hb;replace HB:=bB HB hb;clear hb hbox hg;have S6:w19.cell? ⟨d3,0,none⟩ = some (.int .i64 0):=cz b1 0;have S7:w19.cell? ⟨d3,1,none⟩ = some (.int .i64 0):=cz b1 1;have S8:=blk_frozen b1.out 0;have S9:=blk_frozen b1.out 1))
     go_loopg [10,11] k2 (fun kq v10 v11 w'=>∃ (e2:Int) (d2:Int) (b7:Int) (b6:Int),v10 = .int .i64 e2 ∧ v11 = .int .i64 d2 ∧ Aside0 (numnahref07_Fair.l2 kq l0 l1 e5 e7 i0 e2 d2 b7 b6 = some r) ∧ Aside0 (kq ≤ k2) ∧ Aside0 (Kd.R k23 23 w' w.heap.size (fun k_=>k_ ≠ d3) x3 e5) ∧ Aside0 (Kd.R Kd.bool 4 w' w.heap.size (fun _=>True) x4 e7) ∧ Aside0 (w'.heap[d3]? = some (.cells #[.int .i64 b7,.int .i64 b6] 23 (0,0))) ∧ Aside0 (Below w.heap.size w w'))
     case atStart=>exact ⟨((-1)),(0),(0),(0),(by first | rfl | (simp;done) | (simp [*];done)),(by first | rfl | (simp;done) | (simp [*];done)),H',⟨Nat.le_refl _⟩,⟨by (with_reducible repeat (first | apply Kd.R_alloc | apply Kd.R_drewN | apply Kd.R_drew));exact Kd.R_mono (Kd.R_far (p:=⟨d3,1,none⟩) (Kd.R_far (p:=⟨d3,0,none⟩) (Kd.R_mono b8.out (fun k_ hk=>(⟨hk,hk.2⟩:_ ∧ k_ ≠ d3))) (fun _ hk=>hk.2) (.int .i64 0)) (fun _ hk=>hk.2) (.int .i64 0)) (fun _ hk=>hk.1.2)⟩,⟨by (with_reducible repeat (first | apply Kd.R_alloc | apply Kd.R_drewN | apply Kd.R_drew));exact Kd.R_mono (Kd.R_far (p:=⟨d3,1,none⟩) (Kd.R_far (p:=⟨d3,0,none⟩) (Kd.R_types b9.out b1.out (by decide)) (fun _ hk=>hk.2) (.int .i64 0)) (fun _ hk=>hk.2) (.int .i64 0)) (fun _ hk=>trivial)⟩,⟨by (with_reducible repeat (first | refine blk_drewN ?_ _ | refine blk_drew ?_ | refine blk_alloc ?_ _));refine blk_put (cs:=#[.int .i64 0,.int .i64 0]) ?_ 1 _ rfl;(with_reducible repeat (first | refine blk_drewN ?_ _ | refine blk_drew ?_ | refine blk_alloc ?_ _));refine blk_put (cs:=#[.int .i64 0,.int .i64 0]) ?_ 0 _ rfl;(with_reducible repeat (first | refine blk_drewN ?_ _ | refine blk_drew ?_ | refine blk_alloc ?_ _));exact b1.out⟩,⟨bl HB⟩⟩
     case round =>
      clear H'
      obtain ⟨e2,d2,b7,b6,rfl,rfl,HA,m5,b8,b9,b1,HB⟩:=hrel
      cases gk with
      | zero=>exact absurd HA.out (by simp [numnahref07_Fair.l2])
      | succ k3 =>
       have H:=HA.out
       clear HA
       simp only [numnahref07_Fair.l2] at H
       by_cases K6:d2 < (l0.length:Int)
       case neg =>
        rw [if_neg K6] at H
        have M5:=decide_eq_false K6
        clear K6
        have H':=A_ H
        clear H
        go_wp2
        go_loopg [8,16] k3 (fun kq v8 v16 w'=>∃ (l5:List (S23)) (i1:List Bool) (n9:Int) (b5:Int) (d4:Int) (d5:Int),v8 = .int .i64 n9 ∧ v16 = .int .i64 b5 ∧ Aside0 (numnahref07_Fair.l4 kq l0 l1 l5 i1 n9 e2 b5 d4 d5 = some r) ∧ Aside0 (kq ≤ k3) ∧ Aside0 (Kd.R k23 23 w' w.heap.size (fun k_=>k_ ≠ d3) x3 l5) ∧ Aside0 (Kd.R Kd.bool 4 w' w.heap.size (fun _=>True) x4 i1) ∧ Aside0 (w'.heap[d3]? = some (.cells #[.int .i64 d4,.int .i64 d5] 23 (0,0))) ∧ Aside0 (Below w.heap.size w w'))
        case atStart=>exact ⟨(e5),(e7),(i0),(0),(b7),(b6),(by first | rfl | (simp;done) | (simp [*];done)),(by first | rfl | (simp;done) | (simp [*];done)),H',⟨Nat.le_refl _⟩,⟨by (with_reducible repeat (first | apply Kd.R_alloc | apply Kd.R_drewN | apply Kd.R_drew));exact b8.out⟩,⟨by (with_reducible repeat (first | apply Kd.R_alloc | apply Kd.R_drewN | apply Kd.R_drew));exact b9.out⟩,⟨by (with_reducible repeat (first | refine blk_drewN ?_ _ | refine blk_drew ?_ | refine blk_alloc ?_ _));exact b1.out⟩,⟨bl HB⟩⟩
        case round =>
         clear H'
         obtain ⟨l5,i1,n9,b5,d4,d5,rfl,rfl,HA,m3,b8,b9,b1,HB⟩:=hrel
         cases gk with
         | zero=>exact absurd HA.out (by simp [numnahref07_Fair.l4])
         | succ k4 =>
          have H:=HA.out
          clear HA
          simp only [numnahref07_Fair.l4] at H
          by_cases z1:b5 < (l1.length:Int)
          case neg =>
           rw [if_neg z1] at H
           have H8:=decide_eq_false z1
           clear z1
           have H':=A_ H
           clear H
           go_wp2
           go_roundg k4
           case measure=>have:=m2.out;have:=m4.out;have:=m5.out;have:=m3.out;omega
           case rel=>exact ⟨(l5),(i1),(n9),(by first | rfl | (simp;done) | (simp [*];done)),H',⟨by have:=m2.out;have:=m4.out;have:=m5.out;have:=m3.out;omega⟩,⟨by (with_reducible repeat (first | apply Kd.R_alloc | apply Kd.R_drewN | apply Kd.R_drew));exact Kd.R_mono b8.out (fun _ hk=>trivial)⟩,⟨by (with_reducible repeat (first | apply Kd.R_alloc | apply Kd.R_drewN | apply Kd.R_drew));exact b9.out⟩,⟨bl HB⟩⟩
          rw [if_pos z1] at H
          have H8:=decide_eq_true z1
          clear z1
          replace H:=gd H
          obtain ⟨M6,H⟩:=H
          have c113b0:=decide_eq_true M6
          clear M6
          replace H:=Option.bind_eq_some_iff.mp H
          obtain ⟨D2,F0,H⟩:=H
          replace H:(if D2 = true then (if b5 < (i1.length:Int) then (if rdOf false i1 b5 = true then (numnahref07_Fair.l4 k4 l0 l1 l5 i1 n9 e2 (wrap64 (b5 + 1)) d4 d5) else ((numnahref07_Reduced.f k4 (wrap64 (d4 * ((rd_T45 l1 b5).f0))) d5).bind fun n8=>(if b5 < (l5.length:Int) then (numnahref07_Fair.l4 k4 l0 l1 (l5.set (b5:Int).toNat (⟨n8.1,n8.2⟩:S23)) (i1.set (b5:Int).toNat true) (wrap64 (n9 - 1)) e2 (wrap64 (b5 + 1)) d4 d5) else (none)))) else (none)) else (numnahref07_Fair.l4 k4 l0 l1 l5 i1 n9 e2 (wrap64 (b5 + 1)) d4 d5)) = some r:=H
          have H9:=A_ F0
          clear F0
          by_cases D3:D2 = true
          case neg =>
           replace D3:=Bool.eq_false_iff.mpr D3
           subst D3
           rw [if_neg (show ¬ (false = true) by decide)] at H
           have H':=A_ H
           clear H
           have o5:0 ≤ (b5:Int):=of_decide_eq_true (by first | (with_reducible assumption) | assumption)
           have o6:b5 < (l1.length:Int):=of_decide_eq_true (by first | (with_reducible assumption) | assumption)
           obtain ⟨q6,o7,o8,A2,h1,h2,i4,i5⟩:=at_T45 t1.out b5 o5 o6
           cases A2
           replace h1:=(HB.out.cell (World.block_lt_of_cell? w _ h1)).trans h1
           replace h2:=(HB.out.cell (World.block_lt_of_cell? w _ h2)).trans h2
           have m7:=A_ i5
           have m8:=A_ i4
           clear i5 i4
           replace o5:=eq_true o5
           replace o6:=eq_true o6
           go_wp2_with (first | ((with_reducible refine gate_callee (f:=77) rfl ?_);refine gL (some 122) Try.func77 #[.agg #[.int .i64 ((rd_T45 l1 b5).f0),.slice o7 ((rd_T45 l1 b5).f1).length o8],.int .i64 e2] ?_;(with_reducible refine (numnahref07_Has.calls k4 ((rd_T45 l1 b5).f0) _ _ ((rd_T45 l1 b5).f1) e2 false _ ?side1 ?side2 H9.out).mono ?_);(case side1=>exact cB m7 HB);(case side2=>exact m8.out);rintro e w133 ⟨rfl,hb⟩;refine ⟨_,rfl,?_⟩;replace b8:=rB b8 hb;replace b9:=rB b9 hb;replace b1:=kB b1 hb;replace HB:=bB HB hb;(try clear hb)))
           go_roundg k4
           case measure=>have:=m2.out;have:=m4.out;have:=m5.out;have:=m3.out;omega
           case rel=>exact ⟨(l5),(i1),(n9),(wrap64 (b5 + 1)),(d4),(d5),(by first | rfl | (simp;done) | (simp [*];done)),(by first | rfl | (simp;done) | (simp [*];done)),H',⟨by have:=m2.out;have:=m4.out;have:=m5.out;have:=m3.out;omega⟩,⟨by (with_reducible repeat (first | apply Kd.R_alloc | apply Kd.R_drewN | apply Kd.R_drew));exact b8.out⟩,⟨by (with_reducible repeat (first | apply Kd.R_alloc | apply Kd.R_drewN | apply Kd.R_drew));exact b9.out⟩,⟨by (with_reducible repeat (first | refine blk_drewN ?_ _ | refine blk_drew ?_ | refine blk_alloc ?_ _));exact b1.out⟩,⟨bl HB⟩⟩
          subst D3
          rw [if_pos rfl] at H
          replace H:=gd H
          obtain ⟨M7,H⟩:=H
          have c116b0:=decide_eq_true M7
          clear M7
          obtain ⟨F1,r8⟩:∃ b_:Bool,b_ = (rdOf false i1 b5):=⟨_,rfl⟩
          replace H:(if F1 = true then (numnahref07_Fair.l4 k4 l0 l1 l5 i1 n9 e2 (wrap64 (b5 + 1)) d4 d5) else ((numnahref07_Reduced.f k4 (wrap64 (d4 * ((rd_T45 l1 b5).f0))) d5).bind fun n8=>(if b5 < (l5.length:Int) then (numnahref07_Fair.l4 k4 l0 l1 (l5.set (b5:Int).toNat (⟨n8.1,n8.2⟩:S23)) (i1.set (b5:Int).toNat true) (wrap64 (n9 - 1)) e2 (wrap64 (b5 + 1)) d4 d5) else (none)))) = some r:=by rw [← r8] at H;exact H
          have A3:=A_ r8
          clear r8
          by_cases D4:F1 = true
          ·subst D4
           rw [if_pos rfl] at H
           have H':=A_ H
           clear H
           have o5:0 ≤ (b5:Int):=of_decide_eq_true (by first | (with_reducible assumption) | assumption)
           have o6:b5 < (l1.length:Int):=of_decide_eq_true (by first | (with_reducible assumption) | assumption)
           obtain ⟨q6,o7,o8,A2,h1,h2,i4,i5⟩:=at_T45 t1.out b5 o5 o6
           cases A2
           replace h1:=(HB.out.cell (World.block_lt_of_cell? w _ h1)).trans h1
           replace h2:=(HB.out.cell (World.block_lt_of_cell? w _ h2)).trans h2
           have m7:=A_ i5
           have m8:=A_ i4
           clear i5 i4
           replace o5:=eq_true o5
           replace o6:=eq_true o6
           go_wp2_with (first | ((with_reducible refine gate_callee (f:=77) rfl ?_);refine gL (some 122) Try.func77 #[.agg #[.int .i64 ((rd_T45 l1 b5).f0),.slice o7 ((rd_T45 l1 b5).f1).length o8],.int .i64 e2] ?_;(with_reducible refine (numnahref07_Has.calls k4 ((rd_T45 l1 b5).f0) _ _ ((rd_T45 l1 b5).f1) e2 true _ ?side1 ?side2 H9.out).mono ?_);(case side1=>exact cB m7 HB);(case side2=>exact m8.out);rintro e w119 ⟨rfl,hb⟩;refine ⟨_,rfl,?_⟩;replace b8:=rB b8 hb;replace b9:=rB b9 hb;replace b1:=kB b1 hb;replace HB:=bB HB hb;(try clear hb);obtain ⟨Ao120,co120,M8⟩:=Kd.R_slice b9.out;subst M8;have r9:0 ≤ (b5:Int):=of_decide_eq_true (by first | (with_reducible assumption) | assumption);have s0:b5 < (i1.length:Int):=of_decide_eq_true (by first | (with_reducible assumption) | assumption);obtain ⟨F2,I0,o1⟩:=Kd.at_bool (Kd.R_reads' b9.out).2.2 b5 r9 s0;(try rw [← A3.out] at o1);cases I0;replace r9:=eq_true r9;replace s0:=eq_true s0))
           go_roundg k4
           case measure=>have:=m2.out;have:=m4.out;have:=m5.out;have:=m3.out;omega
           case rel=>exact ⟨(l5),(i1),(n9),(wrap64 (b5 + 1)),(d4),(d5),(by first | rfl | (simp;done) | (simp [*];done)),(by first | rfl | (simp;done) | (simp [*];done)),H',⟨by have:=m2.out;have:=m4.out;have:=m5.out;have:=m3.out;omega⟩,⟨by (with_reducible repeat (first | apply Kd.R_alloc | apply Kd.R_drewN | apply Kd.R_drew));exact b8.out⟩,⟨by (with_reducible repeat (first | apply Kd.R_alloc | apply Kd.R_drewN | apply Kd.R_drew));exact b9.out⟩,⟨by (with_reducible repeat (first | refine blk_drewN ?_ _ | refine blk_drew ?_ | refine blk_alloc ?_ _));exact b1.out⟩,⟨bl HB⟩⟩
          replace D4:=Bool.eq_false_iff.mpr D4
          subst D4
          rw [if_neg (show ¬ (false = true) by decide)] at H
          replace H:=Option.bind_eq_some_iff.mp H
          obtain ⟨⟨o9,p0⟩,A1210,H⟩:=H
          dsimp only at H
          have A121:=A_ A1210
          clear A1210
          replace H:=gd H
          obtain ⟨M9,H⟩:=H
          have c122b0:=decide_eq_true M9
          clear M9
          obtain ⟨N0,A4⟩:∃ y_:List (S23),y_ = (l5.set (b5:Int).toNat (⟨o9,p0⟩:S23)):=⟨_,rfl⟩
          rw [← A4] at H
          have N1:=A_ A4
          clear A4
          obtain ⟨N2,A5⟩:∃ y_:List Bool,y_ = (i1.set (b5:Int).toNat true):=⟨_,rfl⟩
          rw [← A5] at H
          have N3:=A_ A5
          clear A5
          have H':=A_ H
          clear H
          have o5:0 ≤ (b5:Int):=of_decide_eq_true (by first | (with_reducible assumption) | assumption)
          have o6:b5 < (l1.length:Int):=of_decide_eq_true (by first | (with_reducible assumption) | assumption)
          obtain ⟨q6,o7,o8,A2,h1,h2,i4,i5⟩:=at_T45 t1.out b5 o5 o6
          cases A2
          replace h1:=(HB.out.cell (World.block_lt_of_cell? w _ h1)).trans h1
          replace h2:=(HB.out.cell (World.block_lt_of_cell? w _ h2)).trans h2
          have m7:=A_ i5
          have m8:=A_ i4
          clear i5 i4
          replace o5:=eq_true o5
          replace o6:=eq_true o6
          try go_wp2_with (first | ((with_reducible refine gate_callee (f:=77) rfl ?_);refine gL (some 122) Try.func77 #[.agg #[.int .i64 ((rd_T45 l1 b5).f0),.slice o7 ((rd_T45 l1 b5).f1).length o8],.int .i64 e2] ?_;(with_reducible refine (numnahref07_Has.calls k4 ((rd_T45 l1 b5).f0) _ _ ((rd_T45 l1 b5).f1) e2 true _ ?side1 ?side2 H9.out).mono ?_);(case side1=>exact cB m7 HB);(case side2=>exact m8.out);rintro e w125 ⟨rfl,hb⟩;refine ⟨_,rfl,?_⟩;replace b8:=rB b8 hb;replace b9:=rB b9 hb;replace b1:=kB b1 hb;replace HB:=bB HB hb;(try clear hb);obtain ⟨Ao126,A6,N4⟩:=Kd.R_slice b9.out;subst N4;have r9:0 ≤ (b5:Int):=of_decide_eq_true (by first | (with_reducible assumption) | assumption);have s0:b5 < (i1.length:Int):=of_decide_eq_true (by first | (with_reducible assumption) | assumption);obtain ⟨F2,I0,o1⟩:=Kd.at_bool (Kd.R_reads' b9.out).2.2 b5 r9 s0;(try rw [← A3.out] at o1);cases I0;replace r9:=eq_true r9;replace s0:=eq_true s0))
          replace b8:=rD b8
          replace b9:=rD b9
          replace b1:=kD b1
          replace HB:=bD HB
          have I1:0 ≤ (b5:Int):=of_decide_eq_true (by first | (with_reducible assumption) | assumption)
          have I2:b5 < (l1.length:Int):=of_decide_eq_true (by first | (with_reducible assumption) | assumption)
          obtain ⟨N5,I3,I4,e868,m9,n0,t3,t4⟩:=at_T45 t1.out b5 I1 I2
          have o2:=n0
          have o3:=m9
          obtain rfl:q6 = N5:=(by injection e868)
          replace m9:=(HB.out.cell (World.block_lt_of_cell? w _ m9)).trans m9
          replace n0:=(HB.out.cell (World.block_lt_of_cell? w _ n0)).trans n0
          have D5:=A_ t4
          have T0:=A_ t3
          clear t4 t3
          replace I1:=eq_true I1
          replace I2:=eq_true I2
          refine start_ (n:=15) (S:=fun w'=>w'.cell? ⟨d3,0,none⟩ = some (.int .i64 d4) ∧ w'.cell? ⟨d3,1,none⟩ = some (.int .i64 d5) ∧ w'.cell? (q6.add ((b5).toNat * 2)) = some (.int .i64 ((rd_T45 l1 b5).f0)) ∧ w'.cell? ⟨(q6.add ((b5).toNat * 2)).block,(q6.add ((b5).toNat * 2)).off + 1,none⟩ = some (.slice I3 ((rd_T45 l1 b5).f1).length I4)) (ds:=[14]) (ba 15 0) (by kernel_rfl) rfl rfl ⟨cz b1 0,cz b1 1,((HB.out.cell (World.block_lt_of_cell? w _ o3)).trans o3),((HB.out.cell (World.block_lt_of_cell? w _ o2)).trans o2)⟩ (fun hHeld=>?_);refine with_tabW numnahref07_Fair.tab30 numnahref07_Fair.bits30 (fun HT_ HW_=>?_)
          generalize w125.drew = w127 at b8 b9 b1 HB D5 m9 n0 hHeld ⊢
          refine pq 0 130 1 HT_ ?_
          refine pq 1 131 3 HT_ ?_
          refine pq 2 132 7 HT_ ?_
          refine pq 4 134 23 HT_ ?_
          refine pq 5 135 55 HT_ ?_
          refine pq 6 136 119 HT_ ?_
          refine pq 7 137 247 HT_ ?_
          refine pq 10 140 1271 HT_ ?_
          refine tq 3 133 1279 HT_ HW_ hHeld ?_
          refine tq 8 138 1535 HT_ HW_ hHeld ?_
          refine pq 9 139 2047 HT_ ?_
          refine tq 11 141 4095 HT_ HW_ hHeld ?_
          refine oq 12 142 8191 HT_ (fun K hK=>?_)
          refine gq Try.func34 #[.int .i64 (wrap64 (d4 * ((rd_T45 l1 b5).f0))),.int .i64 d5] ?_
          with_reducible refine (numnahref07_Reduced.calls k4 (wrap64 (d4 * ((rd_T45 l1 b5).f0))) d5 o9 p0 _ A121.out).mono ?_
          rintro e A7 ⟨rfl,hb⟩
          refine ⟨_,rfl,?_⟩
          replace b8:=rB b8 hb
          replace b9:=rB b9 hb
          replace b1:=kB b1 hb
          replace HB:=bB HB hb
          (try clear hb)
          have I5:0 ≤ (b5:Int):=of_decide_eq_true (by first | (with_reducible assumption) | assumption)
          have I6:(b5:Int) < ((l5.length:Int):Int):=of_decide_eq_true (by first | (with_reducible assumption) | assumption)
          obtain ⟨h6,N6,F3,F4,N7,cl123,F5⟩:=Kd.R_form b8.out (by omega)
          (first | cases F3 | (injection F3 with ea_ en_ ec_;(first | subst ea_ | (injection ea_ with ea_;subst ea_));subst ec_;clear en_))
          have GB123:=A_ F4
          have N8:=A_ F5
          clear F4 N7 F5
          obtain ⟨ce123,I7,F6,s1,s2⟩:=Kd.R_elem b8.out z23 (b5:Int) I5 I6
          obtain rfl:=k23_openM F6
          have U0:World.cell? _ ⟨h6,(b5:Int).toNat * 2,none⟩ = some (.int .i64 ((rd_T23 l5 b5).f0)):=s1 0 _ rfl
          have U1:World.cell? _ ⟨h6,(b5:Int).toNat * 2 + 1,none⟩ = some (.int .i64 ((rd_T23 l5 b5).f1)):=s1 1 _ rfl
          have U2:World.frozen? _ ⟨h6,(b5:Int).toNat * 2,none⟩ = false:=s2 0
          have U3:World.frozen? _ ⟨h6,(b5:Int).toNat * 2 + 1,none⟩ = false:=s2 1
          clear I7 s1 s2 F6
          replace I5:=eq_true I5
          replace I6:=eq_true I6
          obtain ⟨ce129,A8,F7,A9,I8⟩:=Kd.R_elem b8.out z23 (b5:Int) (of_decide_eq_true (by first | (with_reducible assumption) | assumption)) (by have h_:(b5:Int) < ((l5.length:Int):Int):=of_decide_eq_true (by first | (with_reducible assumption) | assumption);first | exact h_ | (have e_:=(Kd.R_reads' b8.out).1;omega) | simpa using h_)
          obtain rfl:=k23_openM F7
          have B0:=(Kd.R_seg b8.out (b5:Int) (of_decide_eq_true (by first | (with_reducible assumption) | assumption)) (by have h_:(b5:Int) < ((l5.length:Int):Int):=of_decide_eq_true (by first | (with_reducible assumption) | assumption);first | exact h_ | (have e_:=(Kd.R_reads' b8.out).1;omega) | simpa using h_) (seg:=[.int .i64 o9,.int .i64 p0]) (j:=0) A8 A9 (show 2 ≤ 2 from by decide) (x':=(⟨o9,p0⟩:S23)) (k23_mkM _ _ _ (⟨o9,p0⟩:S23) ) (fun _ hk=>hk)).1
          rw [← N1.out] at B0
          have N9:=A_ B0
          clear A8 A9 I8 F7 B0
          refine hK.out _ _ ⟨cz b1 0,cz b1 1,((HB.out.cell (World.block_lt_of_cell? w _ o3)).trans o3),((HB.out.cell (World.block_lt_of_cell? w _ o2)).trans o2)⟩ (fun hHeld=>?_)
          clear hK K
          refine nq 142 ?_
          refine pq 13 143 16383 HT_ ?_
          refine last_ (i:=14) (N:=none) (ba 15 32767) rfl rfl (one_of HT_.out (by kernel_rfl)) (by decide) (fun K hK=>?_)
          refine skip_ (w1:=?_) (by rfl) rfl ?_ ?_
          rotate_left
          ·go_simp
           rfl
          refine hK.out _ _ ?_
          clear hK K
          refine done_ (done_of HT_.out (by kernel_rfl)) ?_
          have n0_:Aside0 (Kd.R k23 23 ((A7.setCell ⟨h6,(b5:Int).toNat * 2,none⟩ (.int .i64 o9)).setCell ⟨h6,(b5:Int).toNat * 2 + 1,none⟩ (.int .i64 p0)) w.heap.size (fun k_=>k_ ≠ d3) (.slice (some ⟨h6,0,none⟩) l5.length N6) N0):=⟨by (with_reducible repeat (first | apply Kd.R_alloc | apply Kd.R_drewN | apply Kd.R_drew));exact N9.out⟩
          have n1_:Aside0 (Kd.R Kd.bool 4 ((A7.setCell ⟨h6,(b5:Int).toNat * 2,none⟩ (.int .i64 o9)).setCell ⟨h6,(b5:Int).toNat * 2 + 1,none⟩ (.int .i64 p0)) w.heap.size (fun _=>True) (.slice (some F2) i1.length A6) i1):=⟨by (with_reducible repeat (first | apply Kd.R_alloc | apply Kd.R_drewN | apply Kd.R_drew));exact Kd.R_mono (Kd.R_far (p:=⟨h6,(b5:Int).toNat * 2 + 1,none⟩) (Kd.R_far (p:=⟨h6,(b5:Int).toNat * 2,none⟩) (Kd.R_types b9.out N8.out (by decide)) (fun _ hk=>hk.2) (.int .i64 o9)) (fun _ hk=>hk.2) (.int .i64 p0)) (fun _ hk=>trivial)⟩
          have n2_:Aside0 (((A7.setCell ⟨h6,(b5:Int).toNat * 2,none⟩ (.int .i64 o9)).setCell ⟨h6,(b5:Int).toNat * 2 + 1,none⟩ (.int .i64 p0)).heap[d3]? = some (.cells #[.int .i64 d4,.int .i64 d5] 23 (0,0))):=⟨by (with_reducible repeat (first | refine blk_drewN ?_ _ | refine blk_drew ?_ | refine blk_alloc ?_ _));refine blk_far ?_ (by have h_:=Kd.R_away b8.out (fun _ hk=>hk);intro e_;exact h_ (by rw [e_];rfl)) _;(with_reducible repeat (first | refine blk_drewN ?_ _ | refine blk_drew ?_ | refine blk_alloc ?_ _));refine blk_far ?_ (by have h_:=Kd.R_away b8.out (fun _ hk=>hk);intro e_;exact h_ (by rw [e_];rfl)) _;(with_reducible repeat (first | refine blk_drewN ?_ _ | refine blk_drew ?_ | refine blk_alloc ?_ _));exact b1.out⟩
          have n3_:Aside0 (Below w.heap.size w ((A7.setCell ⟨h6,(b5:Int).toNat * 2,none⟩ (.int .i64 o9)).setCell ⟨h6,(b5:Int).toNat * 2 + 1,none⟩ (.int .i64 p0))):=⟨bl HB⟩
          generalize ((A7.setCell ⟨h6,(b5:Int).toNat * 2,none⟩ (.int .i64 o9)).setCell ⟨h6,(b5:Int).toNat * 2 + 1,none⟩ (.int .i64 p0)) = O0 at n0_ n1_ n2_ n3_ ⊢
          have b8:=n0_
          have b9:=n1_
          have b1:=n2_
          have HB:=n3_
          clear n0_ n1_ n2_ n3_
          have I9:0 ≤ (b5:Int):=of_decide_eq_true (by first | (with_reducible assumption) | assumption)
          have J0:(b5:Int) < ((i1.length:Int):Int):=of_decide_eq_true (by first | (with_reducible assumption) | assumption)
          obtain ⟨t5,co124,F8,F9,O1,cl124,G0⟩:=Kd.R_form b9.out (by omega)
          (first | cases F8 | (injection F8 with ea_ en_ ec_;(first | subst ea_ | (injection ea_ with ea_;subst ea_));subst ec_;clear en_))
          have O2:=A_ F9
          have GG124:=A_ G0
          clear F9 O1 G0
          (first | simp only [add_plain] at o1 | skip)
          obtain ⟨U4,U5⟩:=Kd.R_celln false b9.out (b5:Int) I9 J0
          replace I9:=eq_true I9
          replace J0:=eq_true J0
          obtain ⟨hy131_,hz131_⟩:=Kd.R_celln false b9.out (b5:Int) (of_decide_eq_true (by first | (with_reducible assumption) | assumption)) (of_decide_eq_true (by first | (with_reducible assumption) | assumption))
          have C0:=Kd.R_putg b9.out (b5:Int) true
          try go_wp2_with (first | ((with_reducible refine gate_store (t:=4) (p:=146) rfl ?_);refine store_event (t:=4) (p:=146) (v:=?vo_w132) (w1:=(O0.setCell ⟨t5,(b5:Int).toNat,none⟩ (.bool true))) ?hg ?ho ?hn ?hr ?_;(case ho=>rfl);(case hg=>rfl);(case hn=>rfl);(case hr=>first | (go_simp;done) | (go_simp;rfl));intro J1 hw;have hg:O0.grownBy J1 (some t5):=(by rw [hw];exact C0.2);have hp_:Kd.R Kd.bool 4 J1 w.heap.size (fun _=>True) (.slice (some ⟨t5,0,none⟩) i1.length A6) N2:=(by rw [hw,N3.out];exact C0.1);clear C0;replace b8:=A_ (Kd.R_over' (v:=(.slice (some ⟨t5,0,none⟩) i1.length A6)) (rs b8) (Kd.R_typed b9.out) (by decide) hg);replace b1:=A_ (blk_grown (g:=d3) (o:=.cells #[.int .i64 d4,.int .i64 d5] 23 (0,0)) (kb b1) hg (Kd.R_ne b9.out b1.out (by decide)));replace b9:=A_ hp_;replace HB:=A_ ((by rw [hw];exact below_set (HB.out) O2.out:Below w.heap.size w J1));clear hg hw hp_))
          go_roundg k4
          case measure=>have:=m2.out;have:=m4.out;have:=m5.out;have:=m3.out;omega
          case rel=>exact ⟨(N0),(N2),(wrap64 (n9 - 1)),(wrap64 (b5 + 1)),(d4),(d5),(by first | rfl | (simp;done) | (simp [*];done)),(by first | rfl | (simp;done) | (simp [*];done)),H',⟨by have:=m2.out;have:=m4.out;have:=m5.out;have:=m3.out;omega⟩,⟨by (with_reducible repeat (first | apply Kd.R_alloc | apply Kd.R_drewN | apply Kd.R_drew));exact b8.out⟩,⟨by (with_reducible repeat (first | apply Kd.R_alloc | apply Kd.R_drewN | apply Kd.R_drew));exact b9.out⟩,⟨by (with_reducible repeat (first | refine blk_drewN ?_ _ | refine blk_drew ?_ | refine blk_alloc ?_ _));exact b1.out⟩,⟨bl HB⟩⟩
       rw [if_pos K6] at H
       have M5:=decide_eq_true K6
       clear K6
       replace H:=gd H
       obtain ⟨c22,H⟩:=H
       have c22b0:=decide_eq_true c22
       clear c22
       replace H:=Option.bind_eq_some_iff.mp H
       obtain ⟨⟨C1,D6⟩,A230,H⟩:=H
       dsimp only at H
       have A23:=A_ A230
       clear A230
       have H':=A_ H
       clear H
       have J2:0 ≤ (d2:Int):=of_decide_eq_true (by first | (with_reducible assumption) | assumption)
       have J3:d2 < (l0.length:Int):=of_decide_eq_true (by first | (with_reducible assumption) | assumption)
       obtain ⟨ad843,e843,q7⟩:=Kd.at_int HR0.out d2 J2 J3
       cases e843
       replace q7:=(HB.out.cell (World.block_lt_of_cell? w _ q7)).trans q7
       replace J2:=eq_true J2
       replace J3:=eq_true J3
       go_wp2_with (first | ((with_reducible refine gate_callee (f:=23) rfl ?_);refine gL (some 48) Try.func23 #[.int .i64 (rd l0 d2)] ?_;(with_reducible refine (numnahref07_Whole.calls (rd l0 d2) C1 D6 _ A23.out).mono ?_);rintro e w24 ⟨rfl,hb⟩;refine ⟨_,rfl,?_⟩;replace b8:=rB b8 hb;replace b9:=rB b9 hb;replace b1:=kB b1 hb;replace HB:=bB HB hb;(try clear hb)) | ((with_reducible refine gate_dst (N:=12) rfl ?_);refine bx 12 #[.int .i64 0,.int .i64 0] 23 ?_;intro d0 hg w25 hbox hb;have b3:=A_ hbox;have p1:=gw hg HB;have GE846:=p1;have d6:=nl hg b1;have e9:=ng hg b1;replace b8:=A_ (Kd.R_below (Kd.R_elderB (rs b8) d0 (Nat.le_of_eq hg.symm)) hb);replace b9:=rB b9 hb;replace b1:=kB b1 hb;replace HB:=bB HB hb;clear hb hbox hg;have hnb26:=e9.out;have hnc26:=d6.out;have U6:w25.cell? ⟨d0,0,none⟩ = some (.int .i64 0):=cz b3 0;have U7:w25.cell? ⟨d0,1,none⟩ = some (.int .i64 0):=cz b3 1;have U8:=blk_frozen b3.out 0;have U9:=blk_frozen b3.out 1))
       go_loopg [13,14] k3 (fun kq v13 v14 w'=>∃ (e3:Int) (b0:Int) (b4:Int) (b2:Int),v13 = .int .i64 e3 ∧ v14 = .int .i64 b0 ∧ Aside0 (numnahref07_Fair.l3 kq l0 l1 e5 e7 i0 e2 d2 e3 b0 b7 b6 b4 b2 = some r) ∧ Aside0 (kq ≤ k3) ∧ Aside0 (Kd.R k23 23 w' w.heap.size (fun k_=>k_ ≠ d3 ∧ k_ ≠ d0) x3 e5) ∧ Aside0 (Kd.R Kd.bool 4 w' w.heap.size (fun _=>True) x4 e7) ∧ Aside0 (w'.heap[d3]? = some (.cells #[.int .i64 b7,.int .i64 b6] 23 (0,0))) ∧ Aside0 (w'.heap[d0]? = some (.cells #[.int .i64 b4,.int .i64 b2] 23 (0,0))) ∧ Aside0 (Below w.heap.size w w'))
       case atStart=>exact ⟨(0),(0),(C1),(D6),(by first | rfl | (simp;done) | (simp [*];done)),(by first | rfl | (simp;done) | (simp [*];done)),H',⟨Nat.le_refl _⟩,⟨by (with_reducible repeat (first | apply Kd.R_alloc | apply Kd.R_drewN | apply Kd.R_drew));exact Kd.R_mono (Kd.R_far (p:=⟨d0,1,none⟩) (Kd.R_far (p:=⟨d0,0,none⟩) (Kd.R_mono b8.out (fun k_ hk=>(⟨hk,hk.2⟩:_ ∧ k_ ≠ d0))) (fun _ hk=>hk.2) (.int .i64 C1)) (fun _ hk=>hk.2) (.int .i64 D6)) (fun _ hk=>⟨hk.1.1,hk.1.2⟩)⟩,⟨by (with_reducible repeat (first | apply Kd.R_alloc | apply Kd.R_drewN | apply Kd.R_drew));exact Kd.R_mono (Kd.R_far (p:=⟨d0,1,none⟩) (Kd.R_far (p:=⟨d0,0,none⟩) (Kd.R_types b9.out b3.out (by decide)) (fun _ hk=>hk.2) (.int .i64 C1)) (fun _ hk=>hk.2) (.int .i64 D6)) (fun _ hk=>trivial)⟩,⟨by (with_reducible repeat (first | refine blk_drewN ?_ _ | refine blk_drew ?_ | refine blk_alloc ?_ _));refine blk_far ?_ d6.out _;(with_reducible repeat (first | refine blk_drewN ?_ _ | refine blk_drew ?_ | refine blk_alloc ?_ _));refine blk_far ?_ d6.out _;(with_reducible repeat (first | refine blk_drewN ?_ _ | refine blk_drew ?_ | refine blk_alloc ?_ _));exact b1.out⟩,⟨by (with_reducible repeat (first | refine blk_drewN ?_ _ | refine blk_drew ?_ | refine blk_alloc ?_ _));refine blk_put (cs:=#[.int .i64 C1,.int .i64 0]) ?_ 1 _ rfl;(with_reducible repeat (first | refine blk_drewN ?_ _ | refine blk_drew ?_ | refine blk_alloc ?_ _));refine blk_put (cs:=#[.int .i64 0,.int .i64 0]) ?_ 0 _ rfl;(with_reducible repeat (first | refine blk_drewN ?_ _ | refine blk_drew ?_ | refine blk_alloc ?_ _));exact b3.out⟩,⟨bl HB⟩⟩
       case round =>
        clear H'
        obtain ⟨e3,b0,b4,b2,rfl,rfl,HA,m3,b8,b9,b1,b3,HB⟩:=hrel
        cases gk with
        | zero=>exact absurd HA.out (by simp [numnahref07_Fair.l3])
        | succ k4 =>
         have H:=HA.out
         clear HA
         simp only [numnahref07_Fair.l3] at H
         by_cases K7:b0 < (l1.length:Int)
         case neg =>
          rw [if_neg K7] at H
          have O3:=decide_eq_false K7
          clear K7
          by_cases J4:e3 = 0
          ·rw [if_pos J4] at H
           have O4:(e3 == 0) = true:=beq_iff_eq.mpr J4
           have O5:(e3 != 0) = false:=bne_eq_false_iff_eq.mpr J4
           clear J4
           have H':=A_ H
           clear H
           go_wp2
           go_roundg k4
           case measure=>have:=m2.out;have:=m4.out;have:=m5.out;have:=m3.out;omega
           case rel=>exact ⟨(e2),(wrap64 (d2 + 1)),(b7),(b6),(by first | rfl | (simp;done) | (simp [*];done)),(by first | rfl | (simp;done) | (simp [*];done)),H',⟨by have:=m2.out;have:=m4.out;have:=m5.out;have:=m3.out;omega⟩,⟨by (with_reducible repeat (first | apply Kd.R_alloc | apply Kd.R_drewN | apply Kd.R_drew));exact Kd.R_mono b8.out (fun _ hk=>hk.1)⟩,⟨by (with_reducible repeat (first | apply Kd.R_alloc | apply Kd.R_drewN | apply Kd.R_drew));exact b9.out⟩,⟨by (with_reducible repeat (first | refine blk_drewN ?_ _ | refine blk_drew ?_ | refine blk_alloc ?_ _));exact b1.out⟩,⟨bl HB⟩⟩
          rw [if_neg J4] at H
          have O4:(e3 == 0) = false:=beq_eq_false_iff_ne.mpr J4
          have O5:(e3 != 0) = true:=bne_iff_ne.mpr J4
          replace H:=Option.bind_eq_some_iff.mp H
          obtain ⟨⟨h8,j9⟩,A800,H⟩:=H
          dsimp only at H
          have A80:=A_ A800
          clear A800
          by_cases K8:e2 < 0
          ·rw [if_pos K8] at H
           have O6:=decide_eq_true K8
           clear K8
           have H':=A_ H
           clear H
           have hnb82:=e9.out
           have hnc82:=d6.out
           have V0:wr.cell? ⟨d0,0,none⟩ = some (.int .i64 b4):=cz b3 0
           have V1:wr.cell? ⟨d0,1,none⟩ = some (.int .i64 b2):=cz b3 1
           have V2:=blk_frozen b3.out 0
           have V3:=blk_frozen b3.out 1
           go_wp2_with (first | ((with_reducible refine gate_callee (f:=34) rfl ?_);refine gL (some 101) Try.func34 #[.int .i64 b4,.int .i64 (wrap64 (b2 * e3))] ?_;(with_reducible refine (numnahref07_Reduced.calls k4 b4 (wrap64 (b2 * e3)) h8 j9 _ A80.out).mono ?_);rintro e w84 ⟨rfl,hb⟩;refine ⟨_,rfl,?_⟩;replace b8:=rB b8 hb;replace b9:=rB b9 hb;replace b1:=kB b1 hb;replace b3:=kB b3 hb;replace HB:=bB HB hb;(try clear hb)) | ((with_reducible refine gate_dst (N:=15) rfl ?_);refine bx 15 #[.int .i64 0,.int .i64 0] 23 ?_;intro e4 hg V4 hbox hb;have e8:=A_ hbox;have r7:=gw hg HB;have G1:=r7;have e6:=nl hg b1;have l6:=ng hg b1;have h0:=nl hg b3;have l7:=ng hg b3;replace b8:=A_ (Kd.R_below (Kd.R_elderB (rs b8) e4 (Nat.le_of_eq hg.symm)) hb);replace b9:=rB b9 hb;replace b1:=kB b1 hb;replace b3:=kB b3 hb;replace HB:=bB HB hb;clear hb hbox hg;have hnb86:=l6.out;have hnc86:=e6.out;have hnb87:=l7.out;have hnc87:=h0.out;have V5:V4.cell? ⟨e4,0,none⟩ = some (.int .i64 0):=cz e8 0;have V6:V4.cell? ⟨e4,1,none⟩ = some (.int .i64 0):=cz e8 1;have V7:=blk_frozen e8.out 0;have V8:=blk_frozen e8.out 1;have V9:V4.cell? ⟨d3,0,none⟩ = some (.int .i64 b7):=cz b1 0;have W0:V4.cell? ⟨d3,1,none⟩ = some (.int .i64 b6):=cz b1 1;have W1:=blk_frozen b1.out 0;have W2:=blk_frozen b1.out 1))
           go_roundg k4
           case measure=>have:=m2.out;have:=m4.out;have:=m5.out;have:=m3.out;omega
           case rel=>exact ⟨(d2),(wrap64 (d2 + 1)),(h8),(j9),(by first | rfl | (simp;done) | (simp [*];done)),(by first | rfl | (simp;done) | (simp [*];done)),H',⟨by have:=m2.out;have:=m4.out;have:=m5.out;have:=m3.out;omega⟩,⟨by (with_reducible repeat (first | apply Kd.R_alloc | apply Kd.R_drewN | apply Kd.R_drew));exact Kd.R_mono (Kd.R_far (p:=⟨d3,1,none⟩) (Kd.R_far (p:=⟨d3,0,none⟩) (Kd.R_far (p:=⟨e4,1,none⟩) (Kd.R_far (p:=⟨e4,0,none⟩) (Kd.R_mono (Kd.R_mono b8.out (fun k_ hk=>(⟨hk,hk.2⟩:_ ∧ k_ ≠ e4))) (fun k_ hk=>(⟨hk,hk.1.1.1⟩:_ ∧ k_ ≠ d3))) (fun _ hk=>hk.1.2) (.int .i64 h8)) (fun _ hk=>hk.1.2) (.int .i64 j9)) (fun _ hk=>hk.2) (.int .i64 h8)) (fun _ hk=>hk.2) (.int .i64 j9)) (fun _ hk=>hk.1.1.1.1)⟩,⟨by (with_reducible repeat (first | apply Kd.R_alloc | apply Kd.R_drewN | apply Kd.R_drew));exact Kd.R_mono (Kd.R_far (p:=⟨d3,1,none⟩) (Kd.R_far (p:=⟨d3,0,none⟩) (Kd.R_far (p:=⟨e4,1,none⟩) (Kd.R_far (p:=⟨e4,0,none⟩) (Kd.R_types (Kd.R_types b9.out e8.out (by decide)) b1.out (by decide)) (fun _ hk=>hk.1.2) (.int .i64 h8)) (fun _ hk=>hk.1.2) (.int .i64 j9)) (fun _ hk=>hk.2) (.int .i64 h8)) (fun _ hk=>hk.2) (.int .i64 j9)) (fun _ hk=>trivial)⟩,⟨by (with_reducible repeat (first | refine blk_drewN ?_ _ | refine blk_drew ?_ | refine blk_alloc ?_ _));refine blk_put (cs:=#[.int .i64 h8,.int .i64 b6]) ?_ 1 _ rfl;(with_reducible repeat (first | refine blk_drewN ?_ _ | refine blk_drew ?_ | refine blk_alloc ?_ _));refine blk_put (cs:=#[.int .i64 b7,.int .i64 b6]) ?_ 0 _ rfl;(with_reducible repeat (first | refine blk_drewN ?_ _ | refine blk_drew ?_ | refine blk_alloc ?_ _));refine blk_far ?_ e6.out _;(with_reducible repeat (first | refine blk_drewN ?_ _ | refine blk_drew ?_ | refine blk_alloc ?_ _));refine blk_far ?_ e6.out _;(with_reducible repeat (first | refine blk_drewN ?_ _ | refine blk_drew ?_ | refine blk_alloc ?_ _));exact b1.out⟩,⟨bl HB⟩⟩
          rw [if_neg K8] at H
          have O6:=decide_eq_false K8
          clear K8
          replace H:=Option.bind_eq_some_iff.mp H
          obtain ⟨C9,O7,H⟩:=H
          replace H:(if C9 = true then (numnahref07_Fair.l2 k4 l0 l1 e5 e7 i0 d2 (wrap64 (d2 + 1)) h8 j9) else (numnahref07_Fair.l2 k4 l0 l1 e5 e7 i0 e2 (wrap64 (d2 + 1)) b7 b6)) = some r:=H
          have A90:=A_ O7
          clear O7
          by_cases W3:C9 = true
          case neg =>
           replace W3:=Bool.eq_false_iff.mpr W3
           subst W3
           rw [if_neg (show ¬ (false = true) by decide)] at H
           have H':=A_ H
           clear H
           have hnb103:=e9.out
           have hnc103:=d6.out
           have O8:wr.cell? ⟨d0,0,none⟩ = some (.int .i64 b4):=cz b3 0
           have O9:wr.cell? ⟨d0,1,none⟩ = some (.int .i64 b2):=cz b3 1
           have P0:=blk_frozen b3.out 0
           have P1:=blk_frozen b3.out 1
           go_wp2_with (first | ((with_reducible refine gate_callee (f:=34) rfl ?_);refine gL (some 101) Try.func34 #[.int .i64 b4,.int .i64 (wrap64 (b2 * e3))] ?_;(with_reducible refine (numnahref07_Reduced.calls k4 b4 (wrap64 (b2 * e3)) h8 j9 _ A80.out).mono ?_);rintro e w105 ⟨rfl,hb⟩;refine ⟨_,rfl,?_⟩;replace b8:=rB b8 hb;replace b9:=rB b9 hb;replace b1:=kB b1 hb;replace b3:=kB b3 hb;replace HB:=bB HB hb;(try clear hb)) | ((with_reducible refine gate_dst (N:=15) rfl ?_);refine bx 15 #[.int .i64 0,.int .i64 0] 23 ?_;intro e4 hg D7 hbox hb;have e8:=A_ hbox;have r7:=gw hg HB;have G1:=r7;have e6:=nl hg b1;have l6:=ng hg b1;have h0:=nl hg b3;have l7:=ng hg b3;replace b8:=A_ (Kd.R_below (Kd.R_elderB (rs b8) e4 (Nat.le_of_eq hg.symm)) hb);replace b9:=rB b9 hb;replace b1:=kB b1 hb;replace b3:=kB b3 hb;replace HB:=bB HB hb;clear hb hbox hg;have hnb107:=l6.out;have hnc107:=e6.out;have hnb108:=l7.out;have hnc108:=h0.out;have P2:D7.cell? ⟨e4,0,none⟩ = some (.int .i64 0):=cz e8 0;have P3:D7.cell? ⟨e4,1,none⟩ = some (.int .i64 0):=cz e8 1;have P4:=blk_frozen e8.out 0;have P5:=blk_frozen e8.out 1;have P6:D7.cell? ⟨d3,0,none⟩ = some (.int .i64 b7):=cz b1 0;have P7:D7.cell? ⟨d3,1,none⟩ = some (.int .i64 b6):=cz b1 1;have P8:=blk_frozen b1.out 0;have P9:=blk_frozen b1.out 1) | (go_at_call 30;(with_reducible refine (numnahref07_Less.calls h8 j9 b7 b6 false _ A90.out).mono ?_);rintro e w111 ⟨rfl,hb⟩;replace b8:=A_ (Kd.R_below (by (with_reducible repeat (first | apply Kd.R_alloc | apply Kd.R_drewN | apply Kd.R_drew));exact (Kd.R_mono (Kd.R_far (p:=⟨e4,1,none⟩) (Kd.R_far (p:=⟨e4,0,none⟩) (Kd.R_mono b8.out (fun k_ hk=>(⟨hk,hk.2⟩:_ ∧ k_ ≠ e4))) (fun _ hk=>hk.2) (.int .i64 h8)) (fun _ hk=>hk.2) (.int .i64 j9)) (fun _ h_=>h_.1))) hb);replace b9:=A_ (Kd.R_below (by (with_reducible repeat (first | apply Kd.R_alloc | apply Kd.R_drewN | apply Kd.R_drew));exact (Kd.R_mono (Kd.R_far (p:=⟨e4,1,none⟩) (Kd.R_far (p:=⟨e4,0,none⟩) (Kd.R_types b9.out e8.out (by decide)) (fun _ hk=>hk.2) (.int .i64 h8)) (fun _ hk=>hk.2) (.int .i64 j9)) (fun _ h_=>h_.1))) hb);replace b1:=A_ (blk_below (g:=d3) (o:=.cells #[.int .i64 b7,.int .i64 b6] 23 (0,0)) (by (with_reducible repeat (first | refine blk_drewN ?_ _ | refine blk_drew ?_ | refine blk_alloc ?_ _));refine blk_far ?_ e6.out _;(with_reducible repeat (first | refine blk_drewN ?_ _ | refine blk_drew ?_ | refine blk_alloc ?_ _));refine blk_far ?_ e6.out _;(with_reducible repeat (first | refine blk_drewN ?_ _ | refine blk_drew ?_ | refine blk_alloc ?_ _));exact b1.out) hb);replace b3:=A_ (blk_below (g:=d0) (o:=.cells #[.int .i64 b4,.int .i64 b2] 23 (0,0)) (by (with_reducible repeat (first | refine blk_drewN ?_ _ | refine blk_drew ?_ | refine blk_alloc ?_ _));refine blk_far ?_ h0.out _;(with_reducible repeat (first | refine blk_drewN ?_ _ | refine blk_drew ?_ | refine blk_alloc ?_ _));refine blk_far ?_ h0.out _;(with_reducible repeat (first | refine blk_drewN ?_ _ | refine blk_drew ?_ | refine blk_alloc ?_ _));exact b3.out) hb);replace e8:=A_ (blk_below (g:=e4) (o:=.cells #[.int .i64 h8,.int .i64 j9] 23 (0,0)) (by (with_reducible repeat (first | refine blk_drewN ?_ _ | refine blk_drew ?_ | refine blk_alloc ?_ _));refine blk_put (cs:=#[.int .i64 h8,.int .i64 0]) ?_ 1 _ rfl;(with_reducible repeat (first | refine blk_drewN ?_ _ | refine blk_drew ?_ | refine blk_alloc ?_ _));refine blk_put (cs:=#[.int .i64 0,.int .i64 0]) ?_ 0 _ rfl;(with_reducible repeat (first | refine blk_drewN ?_ _ | refine blk_drew ?_ | refine blk_alloc ?_ _));exact e8.out) hb);replace HB:=bB HB hb;(try clear hb)))
           go_roundg k4
           case measure=>have:=m2.out;have:=m4.out;have:=m5.out;have:=m3.out;omega
           case rel=>exact ⟨(e2),(wrap64 (d2 + 1)),(b7),(b6),(by first | rfl | (simp;done) | (simp [*];done)),(by first | rfl | (simp;done) | (simp [*];done)),H',⟨by have:=m2.out;have:=m4.out;have:=m5.out;have:=m3.out;omega⟩,⟨by (with_reducible repeat (first | apply Kd.R_alloc | apply Kd.R_drewN | apply Kd.R_drew));exact Kd.R_mono b8.out (fun _ hk=>hk.1.1)⟩,⟨by (with_reducible repeat (first | apply Kd.R_alloc | apply Kd.R_drewN | apply Kd.R_drew));exact b9.out⟩,⟨by (with_reducible repeat (first | refine blk_drewN ?_ _ | refine blk_drew ?_ | refine blk_alloc ?_ _));exact b1.out⟩,⟨bl HB⟩⟩
          subst W3
          rw [if_pos rfl] at H
          have H':=A_ H
          clear H
          have hnb92:=e9.out
          have hnc92:=d6.out
          have W4:wr.cell? ⟨d0,0,none⟩ = some (.int .i64 b4):=cz b3 0
          have W5:wr.cell? ⟨d0,1,none⟩ = some (.int .i64 b2):=cz b3 1
          have W6:=blk_frozen b3.out 0
          have W7:=blk_frozen b3.out 1
          go_wp2_with (first | ((with_reducible refine gate_callee (f:=34) rfl ?_);refine gL (some 101) Try.func34 #[.int .i64 b4,.int .i64 (wrap64 (b2 * e3))] ?_;(with_reducible refine (numnahref07_Reduced.calls k4 b4 (wrap64 (b2 * e3)) h8 j9 _ A80.out).mono ?_);rintro e w94 ⟨rfl,hb⟩;refine ⟨_,rfl,?_⟩;replace b8:=rB b8 hb;replace b9:=rB b9 hb;replace b1:=kB b1 hb;replace b3:=kB b3 hb;replace HB:=bB HB hb;(try clear hb)) | ((with_reducible refine gate_dst (N:=15) rfl ?_);refine bx 15 #[.int .i64 0,.int .i64 0] 23 ?_;intro e4 hg W8 hbox hb;have e8:=A_ hbox;have r7:=gw hg HB;have G1:=r7;have e6:=nl hg b1;have l6:=ng hg b1;have h0:=nl hg b3;have l7:=ng hg b3;replace b8:=A_ (Kd.R_below (Kd.R_elderB (rs b8) e4 (Nat.le_of_eq hg.symm)) hb);replace b9:=rB b9 hb;replace b1:=kB b1 hb;replace b3:=kB b3 hb;replace HB:=bB HB hb;clear hb hbox hg;have hnb96:=l6.out;have hnc96:=e6.out;have hnb97:=l7.out;have hnc97:=h0.out;have W9:W8.cell? ⟨e4,0,none⟩ = some (.int .i64 0):=cz e8 0;have X0:W8.cell? ⟨e4,1,none⟩ = some (.int .i64 0):=cz e8 1;have X1:=blk_frozen e8.out 0;have X2:=blk_frozen e8.out 1;have X3:W8.cell? ⟨d3,0,none⟩ = some (.int .i64 b7):=cz b1 0;have X4:W8.cell? ⟨d3,1,none⟩ = some (.int .i64 b6):=cz b1 1;have X5:=blk_frozen b1.out 0;have X6:=blk_frozen b1.out 1) | (go_at_call 30;(with_reducible refine (numnahref07_Less.calls h8 j9 b7 b6 true _ A90.out).mono ?_);rintro e D8 ⟨rfl,hb⟩;replace b8:=A_ (Kd.R_below (by (with_reducible repeat (first | apply Kd.R_alloc | apply Kd.R_drewN | apply Kd.R_drew));exact (Kd.R_mono (Kd.R_far (p:=⟨e4,1,none⟩) (Kd.R_far (p:=⟨e4,0,none⟩) (Kd.R_mono b8.out (fun k_ hk=>(⟨hk,hk.2⟩:_ ∧ k_ ≠ e4))) (fun _ hk=>hk.2) (.int .i64 h8)) (fun _ hk=>hk.2) (.int .i64 j9)) (fun _ h_=>h_.1))) hb);replace b9:=A_ (Kd.R_below (by (with_reducible repeat (first | apply Kd.R_alloc | apply Kd.R_drewN | apply Kd.R_drew));exact (Kd.R_mono (Kd.R_far (p:=⟨e4,1,none⟩) (Kd.R_far (p:=⟨e4,0,none⟩) (Kd.R_types b9.out e8.out (by decide)) (fun _ hk=>hk.2) (.int .i64 h8)) (fun _ hk=>hk.2) (.int .i64 j9)) (fun _ h_=>h_.1))) hb);replace b1:=A_ (blk_below (g:=d3) (o:=.cells #[.int .i64 b7,.int .i64 b6] 23 (0,0)) (by (with_reducible repeat (first | refine blk_drewN ?_ _ | refine blk_drew ?_ | refine blk_alloc ?_ _));refine blk_far ?_ e6.out _;(with_reducible repeat (first | refine blk_drewN ?_ _ | refine blk_drew ?_ | refine blk_alloc ?_ _));refine blk_far ?_ e6.out _;(with_reducible repeat (first | refine blk_drewN ?_ _ | refine blk_drew ?_ | refine blk_alloc ?_ _));exact b1.out) hb);replace b3:=A_ (blk_below (g:=d0) (o:=.cells #[.int .i64 b4,.int .i64 b2] 23 (0,0)) (by (with_reducible repeat (first | refine blk_drewN ?_ _ | refine blk_drew ?_ | refine blk_alloc ?_ _));refine blk_far ?_ h0.out _;(with_reducible repeat (first | refine blk_drewN ?_ _ | refine blk_drew ?_ | refine blk_alloc ?_ _));refine blk_far ?_ h0.out _;(with_reducible repeat (first | refine blk_drewN ?_ _ | refine blk_drew ?_ | refine blk_alloc ?_ _));exact b3.out) hb);replace e8:=A_ (blk_below (g:=e4) (o:=.cells #[.int .i64 h8,.int .i64 j9] 23 (0,0)) (by (with_reducible repeat (first | refine blk_drewN ?_ _ | refine blk_drew ?_ | refine blk_alloc ?_ _));refine blk_put (cs:=#[.int .i64 h8,.int .i64 0]) ?_ 1 _ rfl;(with_reducible repeat (first | refine blk_drewN ?_ _ | refine blk_drew ?_ | refine blk_alloc ?_ _));refine blk_put (cs:=#[.int .i64 0,.int .i64 0]) ?_ 0 _ rfl;(with_reducible repeat (first | refine blk_drewN ?_ _ | refine blk_drew ?_ | refine blk_alloc ?_ _));exact e8.out) hb);replace HB:=bB HB hb;(try clear hb);have Q0:D8.cell? ⟨e4,0,none⟩ = some (.int .i64 h8):=cz e8 0;have Q1:D8.cell? ⟨e4,1,none⟩ = some (.int .i64 j9):=cz e8 1;have Q2:=blk_frozen e8.out 0;have Q3:=blk_frozen e8.out 1;have Q4:D8.cell? ⟨d3,0,none⟩ = some (.int .i64 b7):=cz b1 0;have Q5:D8.cell? ⟨d3,1,none⟩ = some (.int .i64 b6):=cz b1 1;have Q6:=blk_frozen b1.out 0;have Q7:=blk_frozen b1.out 1))
          go_roundg k4
          case measure=>have:=m2.out;have:=m4.out;have:=m5.out;have:=m3.out;omega
          case rel=>exact ⟨(d2),(wrap64 (d2 + 1)),(h8),(j9),(by first | rfl | (simp;done) | (simp [*];done)),(by first | rfl | (simp;done) | (simp [*];done)),H',⟨by have:=m2.out;have:=m4.out;have:=m5.out;have:=m3.out;omega⟩,⟨by (with_reducible repeat (first | apply Kd.R_alloc | apply Kd.R_drewN | apply Kd.R_drew));exact Kd.R_mono (Kd.R_far (p:=⟨d3,1,none⟩) (Kd.R_far (p:=⟨d3,0,none⟩) (Kd.R_mono b8.out (fun k_ hk=>(⟨hk,hk.1.1⟩:_ ∧ k_ ≠ d3))) (fun _ hk=>hk.2) (.int .i64 h8)) (fun _ hk=>hk.2) (.int .i64 j9)) (fun _ hk=>hk.1.1.1)⟩,⟨by (with_reducible repeat (first | apply Kd.R_alloc | apply Kd.R_drewN | apply Kd.R_drew));exact Kd.R_mono (Kd.R_far (p:=⟨d3,1,none⟩) (Kd.R_far (p:=⟨d3,0,none⟩) (Kd.R_types b9.out b1.out (by decide)) (fun _ hk=>hk.2) (.int .i64 h8)) (fun _ hk=>hk.2) (.int .i64 j9)) (fun _ hk=>trivial)⟩,⟨by (with_reducible repeat (first | refine blk_drewN ?_ _ | refine blk_drew ?_ | refine blk_alloc ?_ _));refine blk_put (cs:=#[.int .i64 h8,.int .i64 b6]) ?_ 1 _ rfl;(with_reducible repeat (first | refine blk_drewN ?_ _ | refine blk_drew ?_ | refine blk_alloc ?_ _));refine blk_put (cs:=#[.int .i64 b7,.int .i64 b6]) ?_ 0 _ rfl;(with_reducible repeat (first | refine blk_drewN ?_ _ | refine blk_drew ?_ | refine blk_alloc ?_ _));exact b1.out⟩,⟨bl HB⟩⟩
         rw [if_pos K7] at H
         have O3:=decide_eq_true K7
         clear K7
         have J5:=A_ H
         clear H
         go_upto_region 17 with (fail)
         go_cut [66] (fun v66 wc=>∃ (kq:Nat) (q8:Bool),v66 = .bool q8 ∧ Aside0 (numnahref07_Fair.j4 kq l0 l1 e5 e7 i0 e2 d2 e3 b0 q8 b7 b6 b4 b2 = some r) ∧ Aside0 (kq ≤ k4) ∧ Aside0 (Kd.R k23 23 wc w.heap.size (fun k_=>k_ ≠ d3 ∧ k_ ≠ d0) x3 e5) ∧ Aside0 (Kd.R Kd.bool 4 wc w.heap.size (fun _=>True) x4 e7) ∧ Aside0 (wc.heap[d3]? = some (.cells #[.int .i64 b7,.int .i64 b6] 23 (0,0))) ∧ Aside0 (wc.heap[d0]? = some (.cells #[.int .i64 b4,.int .i64 b2] 23 (0,0))) ∧ Aside0 (Below w.heap.size w wc))
         case first =>
          have H:=J5.out
          clear J5
          replace H:=gd H
          obtain ⟨c30,H⟩:=H
          have G2:=decide_eq_true c30
          clear c30
          (first | rw [G2] | (simp only [i64_w,i32_w];rw [G2]) | skip)
          replace H:=Option.bind_eq_some_iff.mp H
          obtain ⟨C8,Q8,H⟩:=H
          replace H:(if C8 = true then (if b0 < (e7.length:Int) then (numnahref07_Fair.j4 k4 l0 l1 e5 e7 i0 e2 d2 e3 b0 (rdOf false e7 b0) b7 b6 b4 b2) else (none)) else (numnahref07_Fair.j4 k4 l0 l1 e5 e7 i0 e2 d2 e3 b0 false b7 b6 b4 b2)) = some r:=H
          have A31:=A_ Q8
          clear Q8
          by_cases X7:C8 = true
          case neg =>
           replace X7:=Bool.eq_false_iff.mpr X7
           subst X7
           rw [if_neg (show ¬ (false = true) by decide)] at H
           have H':=A_ H
           clear H
           have s3:0 ≤ (b0:Int):=of_decide_eq_true (by first | (with_reducible assumption) | assumption)
           have s4:b0 < (l1.length:Int):=of_decide_eq_true (by first | (with_reducible assumption) | assumption)
           obtain ⟨Q9,s5,s6,J6,l8,l9,n1,n2⟩:=at_T45 t1.out b0 s3 s4
           cases J6
           replace l8:=(HB.out.cell (World.block_lt_of_cell? w _ l8)).trans l8
           replace l9:=(HB.out.cell (World.block_lt_of_cell? w _ l9)).trans l9
           have q9:=A_ n2
           have r0:=A_ n1
           clear n2 n1
           replace s3:=eq_true s3
           replace s4:=eq_true s4
           go_wp2_with (first | ((with_reducible refine gate_callee (f:=77) rfl ?_);refine gL (some 60) Try.func77 #[.agg #[.int .i64 ((rd_T45 l1 b0).f0),.slice s5 ((rd_T45 l1 b0).f1).length s6],.int .i64 d2] ?_;(with_reducible refine (numnahref07_Has.calls k4 ((rd_T45 l1 b0).f0) _ _ ((rd_T45 l1 b0).f1) d2 false _ ?side1 ?side2 A31.out).mono ?_);(case side1=>exact cB q9 HB);(case side2=>exact r0.out);rintro e w36 ⟨rfl,hb⟩;refine ⟨_,rfl,?_⟩;replace b8:=rB b8 hb;replace b9:=rB b9 hb;replace b1:=kB b1 hb;replace b3:=kB b3 hb;replace HB:=bB HB hb;(try clear hb)))
           go_meet
           case rel=>exact ⟨_,(false),(by first | rfl | (simp;done) | (simp [*];done)),H',⟨by have:=m2.out;have:=m4.out;have:=m5.out;have:=m3.out;first | omega | exact Nat.le_refl _⟩,⟨by (with_reducible repeat (first | apply Kd.R_alloc | apply Kd.R_drewN | apply Kd.R_drew));exact b8.out⟩,⟨by (with_reducible repeat (first | apply Kd.R_alloc | apply Kd.R_drewN | apply Kd.R_drew));exact b9.out⟩,⟨by (with_reducible repeat (first | refine blk_drewN ?_ _ | refine blk_drew ?_ | refine blk_alloc ?_ _));exact b1.out⟩,⟨by (with_reducible repeat (first | refine blk_drewN ?_ _ | refine blk_drew ?_ | refine blk_alloc ?_ _));exact b3.out⟩,⟨bl HB⟩⟩
          subst X7
          rw [if_pos rfl] at H
          replace H:=gd H
          obtain ⟨c33,H⟩:=H
          have c33b0:=decide_eq_true c33
          clear c33
          have H':=A_ H
          clear H
          have s3:0 ≤ (b0:Int):=of_decide_eq_true (by first | (with_reducible assumption) | assumption)
          have s4:b0 < (l1.length:Int):=of_decide_eq_true (by first | (with_reducible assumption) | assumption)
          obtain ⟨Q9,s5,s6,J6,l8,l9,n1,n2⟩:=at_T45 t1.out b0 s3 s4
          cases J6
          replace l8:=(HB.out.cell (World.block_lt_of_cell? w _ l8)).trans l8
          replace l9:=(HB.out.cell (World.block_lt_of_cell? w _ l9)).trans l9
          have q9:=A_ n2
          have r0:=A_ n1
          clear n2 n1
          replace s3:=eq_true s3
          replace s4:=eq_true s4
          go_wp2_with (first | ((with_reducible refine gate_callee (f:=77) rfl ?_);refine gL (some 60) Try.func77 #[.agg #[.int .i64 ((rd_T45 l1 b0).f0),.slice s5 ((rd_T45 l1 b0).f1).length s6],.int .i64 d2] ?_;(with_reducible refine (numnahref07_Has.calls k4 ((rd_T45 l1 b0).f0) _ _ ((rd_T45 l1 b0).f1) d2 true _ ?side1 ?side2 A31.out).mono ?_);(case side1=>exact cB q9 HB);(case side2=>exact r0.out);rintro e w34 ⟨rfl,hb⟩;refine ⟨_,rfl,?_⟩;replace b8:=rB b8 hb;replace b9:=rB b9 hb;replace b1:=kB b1 hb;replace b3:=kB b3 hb;replace HB:=bB HB hb;(try clear hb);obtain ⟨Ao35,co35,eo35⟩:=Kd.R_slice b9.out;subst eo35;have J7:0 ≤ (b0:Int):=of_decide_eq_true (by first | (with_reducible assumption) | assumption);have J8:b0 < (e7.length:Int):=of_decide_eq_true (by first | (with_reducible assumption) | assumption);obtain ⟨ad849,e849,X8⟩:=Kd.at_bool (Kd.R_reads' b9.out).2.2 b0 J7 J8;cases e849;replace J7:=eq_true J7;replace J8:=eq_true J8))
          go_meet
          case rel=>exact ⟨_,(rdOf false e7 b0),(by first | rfl | (simp;done) | (simp [*];done)),H',⟨by have:=m2.out;have:=m4.out;have:=m5.out;have:=m3.out;first | omega | exact Nat.le_refl _⟩,⟨by (with_reducible repeat (first | apply Kd.R_alloc | apply Kd.R_drewN | apply Kd.R_drew));exact b8.out⟩,⟨by (with_reducible repeat (first | apply Kd.R_alloc | apply Kd.R_drewN | apply Kd.R_drew));exact b9.out⟩,⟨by (with_reducible repeat (first | refine blk_drewN ?_ _ | refine blk_drew ?_ | refine blk_alloc ?_ _));exact b1.out⟩,⟨by (with_reducible repeat (first | refine blk_drewN ?_ _ | refine blk_drew ?_ | refine blk_alloc ?_ _));exact b3.out⟩,⟨bl HB⟩⟩
         case rest =>
          clear J5
          obtain ⟨kq,q8,rfl,HA,o0,b8,b9,b1,b3,HB⟩:=hcut
          cases kq with
          | zero=>exact absurd HA.out (by simp [numnahref07_Fair.j4])
          | succ h9 =>
           have H:=HA.out
           clear HA
           simp only [numnahref07_Fair.j4] at H
           by_cases X9:q8 = true
           case neg =>
            replace X9:=Bool.eq_false_iff.mpr X9
            subst X9
            rw [if_neg (show ¬ (false = true) by decide)] at H
            replace H:=gd H
            obtain ⟨c67,H⟩:=H
            have c67b0:=decide_eq_true c67
            clear c67
            replace H:=gd H
            obtain ⟨c68,H⟩:=H
            have c68b0:=decide_eq_true c68
            clear c68
            replace H:=Option.bind_eq_some_iff.mp H
            obtain ⟨D1,R0,H⟩:=H
            replace H:(if D1 = true then (if b0 < (e7.length:Int) then (if rdOf false e7 b0 = true then (numnahref07_Fair.l3 h9 l0 l1 e5 e7 i0 e2 d2 e3 (wrap64 (b0 + 1)) b7 b6 b4 b2) else (numnahref07_Fair.l3 h9 l0 l1 e5 e7 i0 e2 d2 (wrap64 (e3 + ((rd_T45 l1 b0).f0))) (wrap64 (b0 + 1)) b7 b6 b4 b2)) else (none)) else (numnahref07_Fair.l3 h9 l0 l1 e5 e7 i0 e2 d2 e3 (wrap64 (b0 + 1)) b7 b6 b4 b2)) = some r:=H
            have A69:=A_ R0
            clear R0
            by_cases Y0:D1 = true
            case neg =>
             replace Y0:=Bool.eq_false_iff.mpr Y0
             subst Y0
             rw [if_neg (show ¬ (false = true) by decide)] at H
             have H':=A_ H
             clear H
             have p2:0 ≤ (b0:Int):=of_decide_eq_true (by first | (with_reducible assumption) | assumption)
             have p3:b0 < (l1.length:Int):=of_decide_eq_true (by first | (with_reducible assumption) | assumption)
             obtain ⟨C2,p4,p5,C3,h3,h4,i6,i7⟩:=at_T45 t1.out b0 p2 p3
             cases C3
             replace h3:=(HB.out.cell (World.block_lt_of_cell? w _ h3)).trans h3
             replace h4:=(HB.out.cell (World.block_lt_of_cell? w _ h4)).trans h4
             have n3:=A_ i7
             have n4:=A_ i6
             clear i7 i6
             replace p2:=eq_true p2
             replace p3:=eq_true p3
             go_wp2_with (first | ((with_reducible refine gate_callee (f:=77) rfl ?_);refine gL (some 78) Try.func77 #[.agg #[.int .i64 ((rd_T45 l1 b0).f0),.slice p4 ((rd_T45 l1 b0).f1).length p5],.int .i64 d2] ?_;(with_reducible refine (numnahref07_Has.calls h9 ((rd_T45 l1 b0).f0) _ _ ((rd_T45 l1 b0).f1) d2 false _ ?side1 ?side2 A69.out).mono ?_);(case side1=>exact cB n3 HB);(case side2=>exact n4.out);rintro e w78 ⟨rfl,hb⟩;refine ⟨_,rfl,?_⟩;replace b8:=rB b8 hb;replace b9:=rB b9 hb;replace b1:=kB b1 hb;replace b3:=kB b3 hb;replace HB:=bB HB hb;(try clear hb)))
             go_roundg h9
             case measure=>have:=m2.out;have:=m4.out;have:=m5.out;have:=m3.out;have:=o0.out;omega
             case rel=>exact ⟨(e3),(wrap64 (b0 + 1)),(b4),(b2),(by first | rfl | (simp;done) | (simp [*];done)),(by first | rfl | (simp;done) | (simp [*];done)),H',⟨by have:=m2.out;have:=m4.out;have:=m5.out;have:=m3.out;have:=o0.out;omega⟩,⟨by (with_reducible repeat (first | apply Kd.R_alloc | apply Kd.R_drewN | apply Kd.R_drew));exact b8.out⟩,⟨by (with_reducible repeat (first | apply Kd.R_alloc | apply Kd.R_drewN | apply Kd.R_drew));exact b9.out⟩,⟨by (with_reducible repeat (first | refine blk_drewN ?_ _ | refine blk_drew ?_ | refine blk_alloc ?_ _));exact b1.out⟩,⟨by (with_reducible repeat (first | refine blk_drewN ?_ _ | refine blk_drew ?_ | refine blk_alloc ?_ _));exact b3.out⟩,⟨bl HB⟩⟩
            subst Y0
            rw [if_pos rfl] at H
            replace H:=gd H
            obtain ⟨c71,H⟩:=H
            have c71b0:=decide_eq_true c71
            clear c71
            obtain ⟨R1,C4⟩:∃ b_:Bool,b_ = (rdOf false e7 b0):=⟨_,rfl⟩
            replace H:(if R1 = true then (numnahref07_Fair.l3 h9 l0 l1 e5 e7 i0 e2 d2 e3 (wrap64 (b0 + 1)) b7 b6 b4 b2) else (numnahref07_Fair.l3 h9 l0 l1 e5 e7 i0 e2 d2 (wrap64 (e3 + ((rd_T45 l1 b0).f0))) (wrap64 (b0 + 1)) b7 b6 b4 b2)) = some r:=by rw [← C4] at H;exact H
            have G3:=A_ C4
            clear C4
            by_cases Y1:R1 = true
            ·subst Y1
             rw [if_pos rfl] at H
             have H':=A_ H
             clear H
             have p2:0 ≤ (b0:Int):=of_decide_eq_true (by first | (with_reducible assumption) | assumption)
             have p3:b0 < (l1.length:Int):=of_decide_eq_true (by first | (with_reducible assumption) | assumption)
             obtain ⟨C2,p4,p5,C3,h3,h4,i6,i7⟩:=at_T45 t1.out b0 p2 p3
             cases C3
             replace h3:=(HB.out.cell (World.block_lt_of_cell? w _ h3)).trans h3
             replace h4:=(HB.out.cell (World.block_lt_of_cell? w _ h4)).trans h4
             have n3:=A_ i7
             have n4:=A_ i6
             clear i7 i6
             replace p2:=eq_true p2
             replace p3:=eq_true p3
             go_wp2_with (first | ((with_reducible refine gate_callee (f:=77) rfl ?_);refine gL (some 78) Try.func77 #[.agg #[.int .i64 ((rd_T45 l1 b0).f0),.slice p4 ((rd_T45 l1 b0).f1).length p5],.int .i64 d2] ?_;(with_reducible refine (numnahref07_Has.calls h9 ((rd_T45 l1 b0).f0) _ _ ((rd_T45 l1 b0).f1) d2 true _ ?side1 ?side2 A69.out).mono ?_);(case side1=>exact cB n3 HB);(case side2=>exact n4.out);rintro e w74 ⟨rfl,hb⟩;refine ⟨_,rfl,?_⟩;replace b8:=rB b8 hb;replace b9:=rB b9 hb;replace b1:=kB b1 hb;replace b3:=kB b3 hb;replace HB:=bB HB hb;(try clear hb);obtain ⟨Ao75,co75,eo75⟩:=Kd.R_slice b9.out;subst eo75;have s7:0 ≤ (b0:Int):=of_decide_eq_true (by first | (with_reducible assumption) | assumption);have s8:b0 < (e7.length:Int):=of_decide_eq_true (by first | (with_reducible assumption) | assumption);obtain ⟨R2,J9,r1⟩:=Kd.at_bool (Kd.R_reads' b9.out).2.2 b0 s7 s8;(try rw [← G3.out] at r1);cases J9;replace s7:=eq_true s7;replace s8:=eq_true s8))
             go_roundg h9
             case measure=>have:=m2.out;have:=m4.out;have:=m5.out;have:=m3.out;have:=o0.out;omega
             case rel=>exact ⟨(e3),(wrap64 (b0 + 1)),(b4),(b2),(by first | rfl | (simp;done) | (simp [*];done)),(by first | rfl | (simp;done) | (simp [*];done)),H',⟨by have:=m2.out;have:=m4.out;have:=m5.out;have:=m3.out;have:=o0.out;omega⟩,⟨by (with_reducible repeat (first | apply Kd.R_alloc | apply Kd.R_drewN | apply Kd.R_drew));exact b8.out⟩,⟨by (with_reducible repeat (first | apply Kd.R_alloc | apply Kd.R_drewN | apply Kd.R_drew));exact b9.out⟩,⟨by (with_reducible repeat (first | refine blk_drewN ?_ _ | refine blk_drew ?_ | refine blk_alloc ?_ _));exact b1.out⟩,⟨by (with_reducible repeat (first | refine blk_drewN ?_ _ | refine blk_drew ?_ | refine blk_alloc ?_ _));exact b3.out⟩,⟨bl HB⟩⟩
            replace Y1:=Bool.eq_false_iff.mpr Y1
            subst Y1
            rw [if_neg (show ¬ (false = true) by decide)] at H
            have H':=A_ H
            clear H
            have p2:0 ≤ (b0:Int):=of_decide_eq_true (by first | (with_reducible assumption) | assumption)
            have p3:b0 < (l1.length:Int):=of_decide_eq_true (by first | (with_reducible assumption) | assumption)
            obtain ⟨C2,p4,p5,C3,h3,h4,i6,i7⟩:=at_T45 t1.out b0 p2 p3
            cases C3
            replace h3:=(HB.out.cell (World.block_lt_of_cell? w _ h3)).trans h3
            replace h4:=(HB.out.cell (World.block_lt_of_cell? w _ h4)).trans h4
            have n3:=A_ i7
            have n4:=A_ i6
            clear i7 i6
            replace p2:=eq_true p2
            replace p3:=eq_true p3
            go_wp2_with (first | ((with_reducible refine gate_callee (f:=77) rfl ?_);refine gL (some 78) Try.func77 #[.agg #[.int .i64 ((rd_T45 l1 b0).f0),.slice p4 ((rd_T45 l1 b0).f1).length p5],.int .i64 d2] ?_;(with_reducible refine (numnahref07_Has.calls h9 ((rd_T45 l1 b0).f0) _ _ ((rd_T45 l1 b0).f1) d2 true _ ?side1 ?side2 A69.out).mono ?_);(case side1=>exact cB n3 HB);(case side2=>exact n4.out);rintro e w76 ⟨rfl,hb⟩;refine ⟨_,rfl,?_⟩;replace b8:=rB b8 hb;replace b9:=rB b9 hb;replace b1:=kB b1 hb;replace b3:=kB b3 hb;replace HB:=bB HB hb;(try clear hb);obtain ⟨Ao77,co77,eo77⟩:=Kd.R_slice b9.out;subst eo77;have s7:0 ≤ (b0:Int):=of_decide_eq_true (by first | (with_reducible assumption) | assumption);have s8:b0 < (e7.length:Int):=of_decide_eq_true (by first | (with_reducible assumption) | assumption);obtain ⟨R2,J9,r1⟩:=Kd.at_bool (Kd.R_reads' b9.out).2.2 b0 s7 s8;(try rw [← G3.out] at r1);cases J9;replace s7:=eq_true s7;replace s8:=eq_true s8;have K0:0 ≤ (b0:Int):=of_decide_eq_true (by first | (with_reducible assumption) | assumption);have K1:b0 < (l1.length:Int):=of_decide_eq_true (by first | (with_reducible assumption) | assumption);obtain ⟨R3,A860_1,c860_1,e860,r2,r3,t6,t7⟩:=at_T45 t1.out b0 K0 K1;obtain rfl:C2 = R3:=(by injection e860);replace r2:=(HB.out.cell (World.block_lt_of_cell? w _ r2)).trans r2;replace r3:=(HB.out.cell (World.block_lt_of_cell? w _ r3)).trans r3;have Y2:=A_ t7;have Y3:=A_ t6;clear t7 t6;replace K0:=eq_true K0;replace K1:=eq_true K1))
            go_roundg h9
            case measure=>have:=m2.out;have:=m4.out;have:=m5.out;have:=m3.out;have:=o0.out;omega
            case rel=>exact ⟨(wrap64 (e3 + ((rd_T45 l1 b0).f0))),(wrap64 (b0 + 1)),(b4),(b2),(by first | rfl | (simp;done) | (simp [*];done)),(by first | rfl | (simp;done) | (simp [*];done)),H',⟨by have:=m2.out;have:=m4.out;have:=m5.out;have:=m3.out;have:=o0.out;omega⟩,⟨by (with_reducible repeat (first | apply Kd.R_alloc | apply Kd.R_drewN | apply Kd.R_drew));exact b8.out⟩,⟨by (with_reducible repeat (first | apply Kd.R_alloc | apply Kd.R_drewN | apply Kd.R_drew));exact b9.out⟩,⟨by (with_reducible repeat (first | refine blk_drewN ?_ _ | refine blk_drew ?_ | refine blk_alloc ?_ _));exact b1.out⟩,⟨by (with_reducible repeat (first | refine blk_drewN ?_ _ | refine blk_drew ?_ | refine blk_alloc ?_ _));exact b3.out⟩,⟨bl HB⟩⟩
           subst X9
           rw [if_pos rfl] at H
           replace H:=gd H
           obtain ⟨c38,H⟩:=H
           have c38b0:=decide_eq_true c38
           clear c38
           replace H:=gd H
           obtain ⟨c39,H⟩:=H
           have c39b0:=decide_eq_true c39
           clear c39
           replace H:=Option.bind_eq_some_iff.mp H
           obtain ⟨⟨h5,h7⟩,A400,H⟩:=H
           dsimp only at H
           have A40:=A_ A400
           clear A400
           replace H:=gd H
           obtain ⟨c41,H⟩:=H
           have c41b0:=decide_eq_true c41
           clear c41
           replace H:=Option.bind_eq_some_iff.mp H
           obtain ⟨D0,R4,H⟩:=H
           replace H:(if D0 = true then (if b0 < (e7.length:Int) then (if rdOf false e7 b0 = true then (numnahref07_Fair.l3 h9 l0 l1 e5 e7 i0 e2 d2 e3 (wrap64 (b0 + 1)) b7 b6 h5 h7) else (numnahref07_Fair.l3 h9 l0 l1 e5 e7 i0 e2 d2 (wrap64 (e3 + ((rd_T45 l1 b0).f0))) (wrap64 (b0 + 1)) b7 b6 h5 h7)) else (none)) else (numnahref07_Fair.l3 h9 l0 l1 e5 e7 i0 e2 d2 e3 (wrap64 (b0 + 1)) b7 b6 h5 h7)) = some r:=H
           have A42:=A_ R4
           clear R4
           by_cases Y4:D0 = true
           case neg =>
            replace Y4:=Bool.eq_false_iff.mpr Y4
            subst Y4
            rw [if_neg (show ¬ (false = true) by decide)] at H
            have H':=A_ H
            clear H
            try go_wp2
            replace b8:=rD b8
            replace b9:=rD b9
            replace b1:=kD b1
            replace b3:=kD b3
            replace HB:=bD HB
            obtain ⟨Ao62,co62,R5⟩:=Kd.R_slice b8.out
            (first | subst R5 | (injection R5 with G4 R6 G5;have R7:=G4.symm;have R8:=G5.symm;clear G4 R6 G5;subst R7;subst R8))
            have p6:0 ≤ (b0:Int):=of_decide_eq_true (by first | (with_reducible assumption) | assumption)
            have p7:b0 < (e5.length:Int):=of_decide_eq_true (by first | (with_reducible assumption) | assumption)
            obtain ⟨m0,C5,i8,i9⟩:=at_T23 (Kd.R_reads' b8.out).2.2 b0 p6 p7
            cases C5
            replace p6:=eq_true p6
            replace p7:=eq_true p7
            refine start_ (n:=7) (S:=fun w'=>w'.cell? ⟨d0,0,none⟩ = some (.int .i64 b4) ∧ w'.cell? ⟨d0,1,none⟩ = some (.int .i64 b2) ∧ w'.cell? (m0.add ((b0).toNat * 2)) = some (.int .i64 ((rd_T23 e5 b0).f0)) ∧ w'.cell? ⟨(m0.add ((b0).toNat * 2)).block,(m0.add ((b0).toNat * 2)).off + 1,none⟩ = some (.int .i64 ((rd_T23 e5 b0).f1))) (ds:=[6]) (ba 7 0) (by kernel_rfl) rfl rfl ⟨cz b3 0,cz b3 1,i8,i9⟩ (fun hHeld=>?_)
            generalize wc.drew = w61 at b8 b9 b1 b3 HB i8 i9 hHeld ⊢
            refine pr 1 68 2 ?_
            refine pr 2 69 6 ?_
            refine pr 3 70 14 ?_
            refine tr 0 67 15 hHeld ?_
            refine tr 4 71 31 hHeld ?_
            refine os 5 72 63 (fun K hK=>?_)
            refine gq Try.func31 #[.agg #[.int .i64 b4,.int .i64 b2],.agg #[.int .i64 ((rd_T23 e5 b0).f0),.int .i64 ((rd_T23 e5 b0).f1)]] ?_
            with_reducible refine (numnahref07_Sub.calls h9 b4 b2 ((rd_T23 e5 b0).f0) ((rd_T23 e5 b0).f1) h5 h7 _ A40.out).mono ?_
            rintro e w63 ⟨rfl,hb⟩
            have R9:=(hb.cell (World.block_lt_of_cell? _ _ (hHeld.2.2.1))).trans (hHeld.2.2.1)
            have S0:=(hb.cell (World.block_lt_of_cell? _ _ (hHeld.2.2.2))).trans (hHeld.2.2.2)
            refine ⟨_,rfl,?_⟩
            replace b8:=rB b8 hb
            replace b9:=rB b9 hb
            replace b1:=kB b1 hb
            replace b3:=kB b3 hb
            replace HB:=bB HB hb
            (try clear hb)
            refine hz hK (fun hHeld=>?_)
            clear hK K
            refine nq 72 ?_
            refine last_ (i:=6) (N:=none) (ba 7 127) rfl rfl (by kernel_rfl) (by decide) (fun K hK=>?_)
            have hs64:w63.cell? ⟨d0,0,none⟩ = some (.int .i64 b4):=cz b3 0
            have hfs64:=blk_frozen b3.out 0
            have Y5:=d6.out
            have Y6:=e9.out
            have hs65:w63.cell? ⟨d0,1,none⟩ = some (.int .i64 b2):=cz b3 1
            have hfs65:=blk_frozen b3.out 1
            have Y7:=d6.out
            have Y8:=e9.out
            refine skip_ (w1:=?_) (by rfl) rfl ?_ ?_
            rotate_left
            ·go_simp
             rfl
            refine hK.out _ _ ?_
            clear hK K
            refine done_ (by kernel_rfl) ?_
            have p8:0 ≤ (b0:Int):=of_decide_eq_true (by first | (with_reducible assumption) | assumption)
            have p9:b0 < (l1.length:Int):=of_decide_eq_true (by first | (with_reducible assumption) | assumption)
            obtain ⟨n5,q0,q1,C6,d1,d7,j5,j7⟩:=at_T45 t1.out b0 p8 p9
            cases C6
            have d8:n5.block ≠ d0:=Nat.ne_of_lt (Nat.lt_of_lt_of_le (by have:=World.block_lt_of_cell? _ _ d1;first | rwa [add_block] at this | exact this) p1.out)
            have d9:n5.block ≠ d0:=Nat.ne_of_lt (Nat.lt_of_lt_of_le (by have:=World.block_lt_of_cell? _ _ d1;first | rwa [add_block] at this | exact this) p1.out)
            replace d1:=(HB.out.cell (World.block_lt_of_cell? w _ d1)).trans d1
            replace d7:=(HB.out.cell (World.block_lt_of_cell? w _ d7)).trans d7
            have n6:=A_ j7
            have n7:=A_ j5
            clear j7 j5
            replace d1:=(cell_far (p:=⟨d0,0,none⟩) (by first | (rw [add_block];exact d8) | (show (Addr.add _ _).block ≠ _;rw [add_block];exact d8) | exact d8) (.int .i64 h5)).trans d1
            replace d7:=(cell_far (p:=⟨d0,0,none⟩) (by first | (rw [add_block];exact d8) | (show (Addr.add _ _).block ≠ _;rw [add_block];exact d8) | exact d8) (.int .i64 h5)).trans d7
            replace d1:=(cell_far (p:=⟨d0,1,none⟩) (by first | (rw [add_block];exact d9) | (show (Addr.add _ _).block ≠ _;rw [add_block];exact d9) | exact d9) (.int .i64 h7)).trans d1
            replace d7:=(cell_far (p:=⟨d0,1,none⟩) (by first | (rw [add_block];exact d9) | (show (Addr.add _ _).block ≠ _;rw [add_block];exact d9) | exact d9) (.int .i64 h7)).trans d7
            clear d8 d9
            replace p8:=eq_true p8
            replace p9:=eq_true p9
            try go_wp2_with (first | ((with_reducible refine gate_callee (f:=77) rfl ?_);refine gL (some 78) Try.func77 #[.agg #[.int .i64 ((rd_T45 l1 b0).f0),.slice q0 ((rd_T45 l1 b0).f1).length q1],.int .i64 d2] ?_;(with_reducible refine (numnahref07_Has.calls h9 ((rd_T45 l1 b0).f0) _ _ ((rd_T45 l1 b0).f1) d2 false _ ?side1 ?side2 A42.out).mono ?_);(case side1=>exact Kd.C_below n6.out (bl HB));(case side2=>exact n7.out);rintro e w66 ⟨rfl,hb⟩;refine ⟨_,rfl,?_⟩;replace b8:=A_ (Kd.R_below (by (with_reducible repeat (first | apply Kd.R_alloc | apply Kd.R_drewN | apply Kd.R_drew));exact (Kd.R_mono (Kd.R_far (p:=⟨d0,1,none⟩) (Kd.R_far (p:=⟨d0,0,none⟩) (Kd.R_mono b8.out (fun k_ hk=>(⟨hk,hk.2⟩:_ ∧ k_ ≠ d0))) (fun _ hk=>hk.2) (.int .i64 h5)) (fun _ hk=>hk.2) (.int .i64 h7)) (fun _ h_=>h_.1))) hb);replace b9:=A_ (Kd.R_below (by (with_reducible repeat (first | apply Kd.R_alloc | apply Kd.R_drewN | apply Kd.R_drew));exact (Kd.R_mono (Kd.R_far (p:=⟨d0,1,none⟩) (Kd.R_far (p:=⟨d0,0,none⟩) (Kd.R_types b9.out b3.out (by decide)) (fun _ hk=>hk.2) (.int .i64 h5)) (fun _ hk=>hk.2) (.int .i64 h7)) (fun _ h_=>h_.1))) hb);replace b1:=A_ (blk_below (g:=d3) (o:=.cells #[.int .i64 b7,.int .i64 b6] 23 (0,0)) (by (with_reducible repeat (first | refine blk_drewN ?_ _ | refine blk_drew ?_ | refine blk_alloc ?_ _));refine blk_far ?_ d6.out _;(with_reducible repeat (first | refine blk_drewN ?_ _ | refine blk_drew ?_ | refine blk_alloc ?_ _));refine blk_far ?_ d6.out _;(with_reducible repeat (first | refine blk_drewN ?_ _ | refine blk_drew ?_ | refine blk_alloc ?_ _));exact b1.out) hb);replace b3:=A_ (blk_below (g:=d0) (o:=.cells #[.int .i64 h5,.int .i64 h7] 23 (0,0)) (by (with_reducible repeat (first | refine blk_drewN ?_ _ | refine blk_drew ?_ | refine blk_alloc ?_ _));refine blk_put (cs:=#[.int .i64 h5,.int .i64 b2]) ?_ 1 _ rfl;(with_reducible repeat (first | refine blk_drewN ?_ _ | refine blk_drew ?_ | refine blk_alloc ?_ _));refine blk_put (cs:=#[.int .i64 b4,.int .i64 b2]) ?_ 0 _ rfl;(with_reducible repeat (first | refine blk_drewN ?_ _ | refine blk_drew ?_ | refine blk_alloc ?_ _));exact b3.out) hb);replace HB:=bB HB hb;(try clear hb)))
            go_roundg h9
            case measure=>have:=m2.out;have:=m4.out;have:=m5.out;have:=m3.out;have:=o0.out;omega
            case rel=>exact ⟨(e3),(wrap64 (b0 + 1)),(h5),(h7),(by first | rfl | (simp;done) | (simp [*];done)),(by first | rfl | (simp;done) | (simp [*];done)),H',⟨by have:=m2.out;have:=m4.out;have:=m5.out;have:=m3.out;have:=o0.out;omega⟩,⟨by (with_reducible repeat (first | apply Kd.R_alloc | apply Kd.R_drewN | apply Kd.R_drew));exact b8.out⟩,⟨by (with_reducible repeat (first | apply Kd.R_alloc | apply Kd.R_drewN | apply Kd.R_drew));exact b9.out⟩,⟨by (with_reducible repeat (first | refine blk_drewN ?_ _ | refine blk_drew ?_ | refine blk_alloc ?_ _));exact b1.out⟩,⟨by (with_reducible repeat (first | refine blk_drewN ?_ _ | refine blk_drew ?_ | refine blk_alloc ?_ _));exact b3.out⟩,⟨bl HB⟩⟩
           subst Y4
           rw [if_pos rfl] at H
           replace H:=gd H
           obtain ⟨c44,H⟩:=H
           have c44b0:=decide_eq_true c44
           clear c44
           obtain ⟨S1,C7⟩:∃ b_:Bool,b_ = (rdOf false e7 b0):=⟨_,rfl⟩
           replace H:(if S1 = true then (numnahref07_Fair.l3 h9 l0 l1 e5 e7 i0 e2 d2 e3 (wrap64 (b0 + 1)) b7 b6 h5 h7) else (numnahref07_Fair.l3 h9 l0 l1 e5 e7 i0 e2 d2 (wrap64 (e3 + ((rd_T45 l1 b0).f0))) (wrap64 (b0 + 1)) b7 b6 h5 h7)) = some r:=by rw [← C7] at H;exact H
           have G6:=A_ C7
           clear C7
           by_cases Y9:S1 = true
           ·subst Y9
            rw [if_pos rfl] at H
            have H':=A_ H
            clear H
            try go_wp2
            replace b8:=rD b8
            replace b9:=rD b9
            replace b1:=kD b1
            replace b3:=kD b3
            replace HB:=bD HB
            obtain ⟨Ao48,co48,S2⟩:=Kd.R_slice b8.out
            (first | subst S2 | (injection S2 with G4 R6 G5;have R7:=G4.symm;have R8:=G5.symm;clear G4 R6 G5;subst R7;subst R8))
            have p6:0 ≤ (b0:Int):=of_decide_eq_true (by first | (with_reducible assumption) | assumption)
            have p7:b0 < (e5.length:Int):=of_decide_eq_true (by first | (with_reducible assumption) | assumption)
            obtain ⟨m0,C5,i8,i9⟩:=at_T23 (Kd.R_reads' b8.out).2.2 b0 p6 p7
            cases C5
            replace p6:=eq_true p6
            replace p7:=eq_true p7
            refine start_ (n:=7) (S:=fun w'=>w'.cell? ⟨d0,0,none⟩ = some (.int .i64 b4) ∧ w'.cell? ⟨d0,1,none⟩ = some (.int .i64 b2) ∧ w'.cell? (m0.add ((b0).toNat * 2)) = some (.int .i64 ((rd_T23 e5 b0).f0)) ∧ w'.cell? ⟨(m0.add ((b0).toNat * 2)).block,(m0.add ((b0).toNat * 2)).off + 1,none⟩ = some (.int .i64 ((rd_T23 e5 b0).f1))) (ds:=[6]) (ba 7 0) (by kernel_rfl) rfl rfl ⟨cz b3 0,cz b3 1,i8,i9⟩ (fun hHeld=>?_)
            generalize wc.drew = w47 at b8 b9 b1 b3 HB i8 i9 hHeld ⊢
            refine pr 1 68 2 ?_
            refine pr 2 69 6 ?_
            refine pr 3 70 14 ?_
            refine tr 0 67 15 hHeld ?_
            refine tr 4 71 31 hHeld ?_
            refine os 5 72 63 (fun K hK=>?_)
            refine gq Try.func31 #[.agg #[.int .i64 b4,.int .i64 b2],.agg #[.int .i64 ((rd_T23 e5 b0).f0),.int .i64 ((rd_T23 e5 b0).f1)]] ?_
            with_reducible refine (numnahref07_Sub.calls h9 b4 b2 ((rd_T23 e5 b0).f0) ((rd_T23 e5 b0).f1) h5 h7 _ A40.out).mono ?_
            rintro e w49 ⟨rfl,hb⟩
            have R9:=(hb.cell (World.block_lt_of_cell? _ _ (hHeld.2.2.1))).trans (hHeld.2.2.1)
            have S0:=(hb.cell (World.block_lt_of_cell? _ _ (hHeld.2.2.2))).trans (hHeld.2.2.2)
            refine ⟨_,rfl,?_⟩
            replace b8:=rB b8 hb
            replace b9:=rB b9 hb
            replace b1:=kB b1 hb
            replace b3:=kB b3 hb
            replace HB:=bB HB hb
            (try clear hb)
            refine hz hK (fun hHeld=>?_)
            clear hK K
            refine nq 72 ?_
            refine last_ (i:=6) (N:=none) (ba 7 127) rfl rfl (by kernel_rfl) (by decide) (fun K hK=>?_)
            have hs50:w49.cell? ⟨d0,0,none⟩ = some (.int .i64 b4):=cz b3 0
            have hfs50:=blk_frozen b3.out 0
            have Z0:=d6.out
            have Z1:=e9.out
            have hs51:w49.cell? ⟨d0,1,none⟩ = some (.int .i64 b2):=cz b3 1
            have hfs51:=blk_frozen b3.out 1
            have Z2:=d6.out
            have Z3:=e9.out
            refine skip_ (w1:=?_) (by rfl) rfl ?_ ?_
            rotate_left
            ·go_simp
             rfl
            refine hK.out _ _ ?_
            clear hK K
            refine done_ (by kernel_rfl) ?_
            have p8:0 ≤ (b0:Int):=of_decide_eq_true (by first | (with_reducible assumption) | assumption)
            have p9:b0 < (l1.length:Int):=of_decide_eq_true (by first | (with_reducible assumption) | assumption)
            obtain ⟨n5,q0,q1,C6,d1,d7,j5,j7⟩:=at_T45 t1.out b0 p8 p9
            cases C6
            have d8:n5.block ≠ d0:=Nat.ne_of_lt (Nat.lt_of_lt_of_le (by have:=World.block_lt_of_cell? _ _ d1;first | rwa [add_block] at this | exact this) p1.out)
            have d9:n5.block ≠ d0:=Nat.ne_of_lt (Nat.lt_of_lt_of_le (by have:=World.block_lt_of_cell? _ _ d1;first | rwa [add_block] at this | exact this) p1.out)
            replace d1:=(HB.out.cell (World.block_lt_of_cell? w _ d1)).trans d1
            replace d7:=(HB.out.cell (World.block_lt_of_cell? w _ d7)).trans d7
            have n6:=A_ j7
            have n7:=A_ j5
            clear j7 j5
            replace d1:=(cell_far (p:=⟨d0,0,none⟩) (by first | (rw [add_block];exact d8) | (show (Addr.add _ _).block ≠ _;rw [add_block];exact d8) | exact d8) (.int .i64 h5)).trans d1
            replace d7:=(cell_far (p:=⟨d0,0,none⟩) (by first | (rw [add_block];exact d8) | (show (Addr.add _ _).block ≠ _;rw [add_block];exact d8) | exact d8) (.int .i64 h5)).trans d7
            replace d1:=(cell_far (p:=⟨d0,1,none⟩) (by first | (rw [add_block];exact d9) | (show (Addr.add _ _).block ≠ _;rw [add_block];exact d9) | exact d9) (.int .i64 h7)).trans d1
            replace d7:=(cell_far (p:=⟨d0,1,none⟩) (by first | (rw [add_block];exact d9) | (show (Addr.add _ _).block ≠ _;rw [add_block];exact d9) | exact d9) (.int .i64 h7)).trans d7
            clear d8 d9
            replace p8:=eq_true p8
            replace p9:=eq_true p9
            try go_wp2_with (first | ((with_reducible refine gate_callee (f:=77) rfl ?_);refine gL (some 78) Try.func77 #[.agg #[.int .i64 ((rd_T45 l1 b0).f0),.slice q0 ((rd_T45 l1 b0).f1).length q1],.int .i64 d2] ?_;(with_reducible refine (numnahref07_Has.calls h9 ((rd_T45 l1 b0).f0) _ _ ((rd_T45 l1 b0).f1) d2 true _ ?side1 ?side2 A42.out).mono ?_);(case side1=>exact Kd.C_below n6.out (bl HB));(case side2=>exact n7.out);rintro e w52 ⟨rfl,hb⟩;refine ⟨_,rfl,?_⟩;replace b8:=A_ (Kd.R_below (by (with_reducible repeat (first | apply Kd.R_alloc | apply Kd.R_drewN | apply Kd.R_drew));exact (Kd.R_mono (Kd.R_far (p:=⟨d0,1,none⟩) (Kd.R_far (p:=⟨d0,0,none⟩) (Kd.R_mono b8.out (fun k_ hk=>(⟨hk,hk.2⟩:_ ∧ k_ ≠ d0))) (fun _ hk=>hk.2) (.int .i64 h5)) (fun _ hk=>hk.2) (.int .i64 h7)) (fun _ h_=>h_.1))) hb);replace b9:=A_ (Kd.R_below (by (with_reducible repeat (first | apply Kd.R_alloc | apply Kd.R_drewN | apply Kd.R_drew));exact (Kd.R_mono (Kd.R_far (p:=⟨d0,1,none⟩) (Kd.R_far (p:=⟨d0,0,none⟩) (Kd.R_types b9.out b3.out (by decide)) (fun _ hk=>hk.2) (.int .i64 h5)) (fun _ hk=>hk.2) (.int .i64 h7)) (fun _ h_=>h_.1))) hb);replace b1:=A_ (blk_below (g:=d3) (o:=.cells #[.int .i64 b7,.int .i64 b6] 23 (0,0)) (by (with_reducible repeat (first | refine blk_drewN ?_ _ | refine blk_drew ?_ | refine blk_alloc ?_ _));refine blk_far ?_ d6.out _;(with_reducible repeat (first | refine blk_drewN ?_ _ | refine blk_drew ?_ | refine blk_alloc ?_ _));refine blk_far ?_ d6.out _;(with_reducible repeat (first | refine blk_drewN ?_ _ | refine blk_drew ?_ | refine blk_alloc ?_ _));exact b1.out) hb);replace b3:=A_ (blk_below (g:=d0) (o:=.cells #[.int .i64 h5,.int .i64 h7] 23 (0,0)) (by (with_reducible repeat (first | refine blk_drewN ?_ _ | refine blk_drew ?_ | refine blk_alloc ?_ _));refine blk_put (cs:=#[.int .i64 h5,.int .i64 b2]) ?_ 1 _ rfl;(with_reducible repeat (first | refine blk_drewN ?_ _ | refine blk_drew ?_ | refine blk_alloc ?_ _));refine blk_put (cs:=#[.int .i64 b4,.int .i64 b2]) ?_ 0 _ rfl;(with_reducible repeat (first | refine blk_drewN ?_ _ | refine blk_drew ?_ | refine blk_alloc ?_ _));exact b3.out) hb);replace HB:=bB HB hb;(try clear hb);obtain ⟨Ao53,co53,eo53⟩:=Kd.R_slice b9.out;subst eo53;have s9:0 ≤ (b0:Int):=of_decide_eq_true (by first | (with_reducible assumption) | assumption);have t0:b0 < (e7.length:Int):=of_decide_eq_true (by first | (with_reducible assumption) | assumption);obtain ⟨S3,K2,r4⟩:=Kd.at_bool (Kd.R_reads' b9.out).2.2 b0 s9 t0;(try rw [← G6.out] at r4);cases K2;replace s9:=eq_true s9;replace t0:=eq_true t0))
            go_roundg h9
            case measure=>have:=m2.out;have:=m4.out;have:=m5.out;have:=m3.out;have:=o0.out;omega
            case rel=>exact ⟨(e3),(wrap64 (b0 + 1)),(h5),(h7),(by first | rfl | (simp;done) | (simp [*];done)),(by first | rfl | (simp;done) | (simp [*];done)),H',⟨by have:=m2.out;have:=m4.out;have:=m5.out;have:=m3.out;have:=o0.out;omega⟩,⟨by (with_reducible repeat (first | apply Kd.R_alloc | apply Kd.R_drewN | apply Kd.R_drew));exact b8.out⟩,⟨by (with_reducible repeat (first | apply Kd.R_alloc | apply Kd.R_drewN | apply Kd.R_drew));exact b9.out⟩,⟨by (with_reducible repeat (first | refine blk_drewN ?_ _ | refine blk_drew ?_ | refine blk_alloc ?_ _));exact b1.out⟩,⟨by (with_reducible repeat (first | refine blk_drewN ?_ _ | refine blk_drew ?_ | refine blk_alloc ?_ _));exact b3.out⟩,⟨bl HB⟩⟩
           replace Y9:=Bool.eq_false_iff.mpr Y9
           subst Y9
           rw [if_neg (show ¬ (false = true) by decide)] at H
           have H':=A_ H
           clear H
           try go_wp2
           replace b8:=rD b8
           replace b9:=rD b9
           replace b1:=kD b1
           replace b3:=kD b3
           replace HB:=bD HB
           obtain ⟨Ao55,co55,S4⟩:=Kd.R_slice b8.out
           (first | subst S4 | (injection S4 with G4 R6 G5;have R7:=G4.symm;have R8:=G5.symm;clear G4 R6 G5;subst R7;subst R8))
           have p6:0 ≤ (b0:Int):=of_decide_eq_true (by first | (with_reducible assumption) | assumption)
           have p7:b0 < (e5.length:Int):=of_decide_eq_true (by first | (with_reducible assumption) | assumption)
           obtain ⟨m0,C5,i8,i9⟩:=at_T23 (Kd.R_reads' b8.out).2.2 b0 p6 p7
           cases C5
           replace p6:=eq_true p6
           replace p7:=eq_true p7
           refine start_ (n:=7) (S:=fun w'=>w'.cell? ⟨d0,0,none⟩ = some (.int .i64 b4) ∧ w'.cell? ⟨d0,1,none⟩ = some (.int .i64 b2) ∧ w'.cell? (m0.add ((b0).toNat * 2)) = some (.int .i64 ((rd_T23 e5 b0).f0)) ∧ w'.cell? ⟨(m0.add ((b0).toNat * 2)).block,(m0.add ((b0).toNat * 2)).off + 1,none⟩ = some (.int .i64 ((rd_T23 e5 b0).f1))) (ds:=[6]) (ba 7 0) (by kernel_rfl) rfl rfl ⟨cz b3 0,cz b3 1,i8,i9⟩ (fun hHeld=>?_)
           generalize wc.drew = w54 at b8 b9 b1 b3 HB i8 i9 hHeld ⊢
           refine pr 1 68 2 ?_
           refine pr 2 69 6 ?_
           refine pr 3 70 14 ?_
           refine tr 0 67 15 hHeld ?_
           refine tr 4 71 31 hHeld ?_
           refine os 5 72 63 (fun K hK=>?_)
           refine gq Try.func31 #[.agg #[.int .i64 b4,.int .i64 b2],.agg #[.int .i64 ((rd_T23 e5 b0).f0),.int .i64 ((rd_T23 e5 b0).f1)]] ?_
           with_reducible refine (numnahref07_Sub.calls h9 b4 b2 ((rd_T23 e5 b0).f0) ((rd_T23 e5 b0).f1) h5 h7 _ A40.out).mono ?_
           rintro e w56 ⟨rfl,hb⟩
           have R9:=(hb.cell (World.block_lt_of_cell? _ _ (hHeld.2.2.1))).trans (hHeld.2.2.1)
           have S0:=(hb.cell (World.block_lt_of_cell? _ _ (hHeld.2.2.2))).trans (hHeld.2.2.2)
           refine ⟨_,rfl,?_⟩
           replace b8:=rB b8 hb
           replace b9:=rB b9 hb
           replace b1:=kB b1 hb
           replace b3:=kB b3 hb
           replace HB:=bB HB hb
           (try clear hb)
           refine hz hK (fun hHeld=>?_)
           clear hK K
           refine nq 72 ?_
           refine last_ (i:=6) (N:=none) (ba 7 127) rfl rfl (by kernel_rfl) (by decide) (fun K hK=>?_)
           have hs57:w56.cell? ⟨d0,0,none⟩ = some (.int .i64 b4):=cz b3 0
           have hfs57:=blk_frozen b3.out 0
           have Z4:=d6.out
           have Z5:=e9.out
           have hs58:w56.cell? ⟨d0,1,none⟩ = some (.int .i64 b2):=cz b3 1
           have hfs58:=blk_frozen b3.out 1
           have Z6:=d6.out
           have Z7:=e9.out
           refine skip_ (w1:=?_) (by rfl) rfl ?_ ?_
           rotate_left
           ·go_simp
            rfl
           refine hK.out _ _ ?_
           clear hK K
           refine done_ (by kernel_rfl) ?_
           have p8:0 ≤ (b0:Int):=of_decide_eq_true (by first | (with_reducible assumption) | assumption)
           have p9:b0 < (l1.length:Int):=of_decide_eq_true (by first | (with_reducible assumption) | assumption)
           obtain ⟨n5,q0,q1,C6,d1,d7,j5,j7⟩:=at_T45 t1.out b0 p8 p9
           cases C6
           have d8:n5.block ≠ d0:=Nat.ne_of_lt (Nat.lt_of_lt_of_le (by have:=World.block_lt_of_cell? _ _ d1;first | rwa [add_block] at this | exact this) p1.out)
           have d9:n5.block ≠ d0:=Nat.ne_of_lt (Nat.lt_of_lt_of_le (by have:=World.block_lt_of_cell? _ _ d1;first | rwa [add_block] at this | exact this) p1.out)
           replace d1:=(HB.out.cell (World.block_lt_of_cell? w _ d1)).trans d1
           replace d7:=(HB.out.cell (World.block_lt_of_cell? w _ d7)).trans d7
           have n6:=A_ j7
           have n7:=A_ j5
           clear j7 j5
           replace d1:=(cell_far (p:=⟨d0,0,none⟩) (by first | (rw [add_block];exact d8) | (show (Addr.add _ _).block ≠ _;rw [add_block];exact d8) | exact d8) (.int .i64 h5)).trans d1
           replace d7:=(cell_far (p:=⟨d0,0,none⟩) (by first | (rw [add_block];exact d8) | (show (Addr.add _ _).block ≠ _;rw [add_block];exact d8) | exact d8) (.int .i64 h5)).trans d7
           replace d1:=(cell_far (p:=⟨d0,1,none⟩) (by first | (rw [add_block];exact d9) | (show (Addr.add _ _).block ≠ _;rw [add_block];exact d9) | exact d9) (.int .i64 h7)).trans d1
           replace d7:=(cell_far (p:=⟨d0,1,none⟩) (by first | (rw [add_block];exact d9) | (show (Addr.add _ _).block ≠ _;rw [add_block];exact d9) | exact d9) (.int .i64 h7)).trans d7
           clear d8 d9
           replace p8:=eq_true p8
           replace p9:=eq_true p9
           try go_wp2_with (first | ((with_reducible refine gate_callee (f:=77) rfl ?_);refine gL (some 78) Try.func77 #[.agg #[.int .i64 ((rd_T45 l1 b0).f0),.slice q0 ((rd_T45 l1 b0).f1).length q1],.int .i64 d2] ?_;(with_reducible refine (numnahref07_Has.calls h9 ((rd_T45 l1 b0).f0) _ _ ((rd_T45 l1 b0).f1) d2 true _ ?side1 ?side2 A42.out).mono ?_);(case side1=>exact Kd.C_below n6.out (bl HB));(case side2=>exact n7.out);rintro e w59 ⟨rfl,hb⟩;refine ⟨_,rfl,?_⟩;replace b8:=A_ (Kd.R_below (by (with_reducible repeat (first | apply Kd.R_alloc | apply Kd.R_drewN | apply Kd.R_drew));exact (Kd.R_mono (Kd.R_far (p:=⟨d0,1,none⟩) (Kd.R_far (p:=⟨d0,0,none⟩) (Kd.R_mono b8.out (fun k_ hk=>(⟨hk,hk.2⟩:_ ∧ k_ ≠ d0))) (fun _ hk=>hk.2) (.int .i64 h5)) (fun _ hk=>hk.2) (.int .i64 h7)) (fun _ h_=>h_.1))) hb);replace b9:=A_ (Kd.R_below (by (with_reducible repeat (first | apply Kd.R_alloc | apply Kd.R_drewN | apply Kd.R_drew));exact (Kd.R_mono (Kd.R_far (p:=⟨d0,1,none⟩) (Kd.R_far (p:=⟨d0,0,none⟩) (Kd.R_types b9.out b3.out (by decide)) (fun _ hk=>hk.2) (.int .i64 h5)) (fun _ hk=>hk.2) (.int .i64 h7)) (fun _ h_=>h_.1))) hb);replace b1:=A_ (blk_below (g:=d3) (o:=.cells #[.int .i64 b7,.int .i64 b6] 23 (0,0)) (by (with_reducible repeat (first | refine blk_drewN ?_ _ | refine blk_drew ?_ | refine blk_alloc ?_ _));refine blk_far ?_ d6.out _;(with_reducible repeat (first | refine blk_drewN ?_ _ | refine blk_drew ?_ | refine blk_alloc ?_ _));refine blk_far ?_ d6.out _;(with_reducible repeat (first | refine blk_drewN ?_ _ | refine blk_drew ?_ | refine blk_alloc ?_ _));exact b1.out) hb);replace b3:=A_ (blk_below (g:=d0) (o:=.cells #[.int .i64 h5,.int .i64 h7] 23 (0,0)) (by (with_reducible repeat (first | refine blk_drewN ?_ _ | refine blk_drew ?_ | refine blk_alloc ?_ _));refine blk_put (cs:=#[.int .i64 h5,.int .i64 b2]) ?_ 1 _ rfl;(with_reducible repeat (first | refine blk_drewN ?_ _ | refine blk_drew ?_ | refine blk_alloc ?_ _));refine blk_put (cs:=#[.int .i64 b4,.int .i64 b2]) ?_ 0 _ rfl;(with_reducible repeat (first | refine blk_drewN ?_ _ | refine blk_drew ?_ | refine blk_alloc ?_ _));exact b3.out) hb);replace HB:=bB HB hb;(try clear hb);obtain ⟨Ao60,co60,eo60⟩:=Kd.R_slice b9.out;subst eo60;have s9:0 ≤ (b0:Int):=of_decide_eq_true (by first | (with_reducible assumption) | assumption);have t0:b0 < (e7.length:Int):=of_decide_eq_true (by first | (with_reducible assumption) | assumption);obtain ⟨S3,K2,r4⟩:=Kd.at_bool (Kd.R_reads' b9.out).2.2 b0 s9 t0;(try rw [← G6.out] at r4);cases K2;replace s9:=eq_true s9;replace t0:=eq_true t0;have K3:0 ≤ (b0:Int):=of_decide_eq_true (by first | (with_reducible assumption) | assumption);have K4:b0 < (l1.length:Int):=of_decide_eq_true (by first | (with_reducible assumption) | assumption);obtain ⟨S5,A856_1,c856_1,e856,r5,r6,t8,t9⟩:=at_T45 t1.out b0 K3 K4;obtain rfl:n5 = S5:=(by injection e856);replace r5:=(HB.out.cell (World.block_lt_of_cell? w _ r5)).trans r5;replace r6:=(HB.out.cell (World.block_lt_of_cell? w _ r6)).trans r6;have Z8:=A_ t9;have Z9:=A_ t8;clear t9 t8;replace K3:=eq_true K3;replace K4:=eq_true K4))
           go_roundg h9
           case measure=>have:=m2.out;have:=m4.out;have:=m5.out;have:=m3.out;have:=o0.out;omega
           case rel=>exact ⟨(wrap64 (e3 + ((rd_T45 l1 b0).f0))),(wrap64 (b0 + 1)),(h5),(h7),(by first | rfl | (simp;done) | (simp [*];done)),(by first | rfl | (simp;done) | (simp [*];done)),H',⟨by have:=m2.out;have:=m4.out;have:=m5.out;have:=m3.out;have:=o0.out;omega⟩,⟨by (with_reducible repeat (first | apply Kd.R_alloc | apply Kd.R_drewN | apply Kd.R_drew));exact b8.out⟩,⟨by (with_reducible repeat (first | apply Kd.R_alloc | apply Kd.R_drewN | apply Kd.R_drew));exact b9.out⟩,⟨by (with_reducible repeat (first | refine blk_drewN ?_ _ | refine blk_drew ?_ | refine blk_alloc ?_ _));exact b1.out⟩,⟨by (with_reducible repeat (first | refine blk_drewN ?_ _ | refine blk_drew ?_ | refine blk_alloc ?_ _));exact b3.out⟩,⟨bl HB⟩⟩
end Go.Proofs.Ytjohcjfmlhihbaa.G
set_option linter.unusedSectionVars false
namespace Go.Proofs.Ytjohcjfmlhihbaa.P
open Go Go.RowKit Go.Proofs.Ytjohcjfmlhihbaa.G
open Go.Proofs.YtjohcjfmlhihbaaW.PrintWords Go.Proofs.YtjohcjfmlhihbaaW.PrintMore
theorem cnt_congr:∀ (m:Nat) (f g:Nat → Bool),(∀ v,v < m → g v = f v) → cnt m g = cnt m f
 | 0,_,_,_=>rfl
 | m + 1,f,g,h=>by rw [cnt_succ,cnt_succ,cnt_congr m f g fun v hv=>h v (by omega),h m (by omega)]
theorem cnt_upd:∀ (m:Nat) (f g:Nat → Bool) (i:Nat),i < m → f i = false → g i = true → (∀ v,v ≠ i → g v = f v) → cnt m g + 1 = cnt m f
 | 0,_,_,_,h,_,_,_=>by omega
 | m + 1,f,g,i,h,h1,h2,h3=>by
  rw [cnt_succ,cnt_succ]
  by_cases e:i = m
  ·subst e
   rw [h1,h2,cnt_congr i f g fun v hv=>h3 v (by omega)];rfl
  ·have:=cnt_upd m f g i (by omega) h1 h2 h3
   rw [h3 m (fun h=>e h.symm)]
   omega
section
variable {p:List Int} {u:List S45} (hN:IsN p u) {fix:Nat → Bool} {r:Nat → Rat} {lam:Rat} {D:Nat} (hF:FS p u fix r lam D)
include hN hF
theorem rfair_l3 {z:S23} {c b0 b1 b2:Int} {v:List S23} {q:Nat} (hq:q < p.length) (hb:Ev (fun k=>(if wN (netOf p u) u fix q u.length = 0 then numnahref07_Fair.l2 k p u (rts u.length z fix r) (tab u.length fix) c b0 ((q + 1:Nat):Int) b1 b2 else if b0 < 0 then numnahref07_Fair.l2 k p u (rts u.length z fix r) (tab u.length fix) c (q:Int) ((q + 1:Nat):Int) (muq p u fix r q).num ((muq p u fix r q).den:Int) else (numnahref07_Less.f (muq p u fix r q).num ((muq p u fix r q).den:Int) b1 b2).bind fun t=>if t = true then numnahref07_Fair.l2 k p u (rts u.length z fix r) (tab u.length fix) c (q:Int) ((q + 1:Nat):Int) (muq p u fix r q).num ((muq p u fix r q).den:Int) else numnahref07_Fair.l2 k p u (rts u.length z fix r) (tab u.length fix) c b0 ((q + 1:Nat):Int) b1 b2)) v) :
  ∀ d i,i + d = u.length → Ev (fun k=>numnahref07_Fair.l3 k p u (rts u.length z fix r) (tab u.length fix) c b0 (q:Int) (wN (netOf p u) u fix q i:Int) (i:Int) b1 b2 (lf (netOf p u) fix r q i).num ((lf (netOf p u) fix r q i).den:Int)) v:=by
 intro d
 have h6:=hN.u6
 have h5:=hN.p5
 induction d with
 | zero =>
  intro i hi
  obtain rfl:i = u.length:=by omega
  by_cases hw:wN (netOf p u) u fix q u.length = 0
  ·refine Ev.step (fun k=>by rw [numnahref07_Fair.l3,if_neg (by omega),if_pos (by omega),wrap_succ (by omega)]) ?_
   exact Ev.congr (fun k=>(if_pos hw).symm) hb
  ·have hln:=lf_num hN hF hq (i:=u.length) (Nat.le_refl _)
   have hwl:=wN_cnt hN fix q u.length (Nat.le_refl _)
   have hcm:=cnt_m u.length fix
   have hm:(lf (netOf p u) fix r q u.length).den * wN (netOf p u) u fix q u.length ≤ 2949120 * 24:=Nat.mul_le_mul hln.2 (by omega)
   have ho:=ev_frac (lf (netOf p u) fix r q u.length).num ((lf (netOf p u) fix r q u.length).den * wN (netOf p u) u fix q u.length) (Nat.mul_pos (den_pos _) (by omega)) (by omega) (by omega)
   rw [mk_over _ (by omega)] at ho
   have e:wrap64 (((lf (netOf p u) fix r q u.length).den:Int) * (wN (netOf p u) u fix q u.length:Int)) = (((lf (netOf p u) fix r q u.length).den * wN (netOf p u) u fix q u.length:Nat):Int):=by
    rw [show ((lf (netOf p u) fix r q u.length).den:Int) * (wN (netOf p u) u fix q u.length:Int) = (((lf (netOf p u) fix r q u.length).den * wN (netOf p u) u fix q u.length:Nat):Int) by push_cast;rfl]
    exact wrap_nat (by omega)
   refine Ev.step (fun k=>by rw [numnahref07_Fair.l3,if_neg (by omega),if_neg (by omega),e,ref_reduced,wrap_succ (by omega)]) (Ev.bind ho ?_)
   exact Ev.congr (fun k=>(if_neg hw).symm) hb
 | succ d ih =>
  intro i hi
  have hil:i < u.length:=by omega
  have hn:=ih (i + 1) (by omega)
  rw [lf_succ,wN] at hn
  have hrl:(rts u.length z fix r).length = u.length:=tab_length _ _
  have hr1:fix i = true → rd_T23 (rts u.length z fix r) (i:Int) = encQ (r i):=fun hf=>by unfold rts;rw [tab_T hil,if_pos hf]
  refine Ev.step (fun k=>by rw [numnahref07_Fair.l3,if_pos (by omega),if_pos (by omega),tab_length,tab_b hil]) (Ev.bind (ev_rhasN hN hil q) ?_)
  by_cases hh:(netOf p u).has i q = true
  ·refine Ev.congr (fun k=>if_pos hh) (Ev.congr (fun k=>if_pos (by omega)) ?_)
   by_cases hf:fix i = true
   ·rw [hh,hf,if_pos (show (true && true) = true from rfl),if_neg (show ¬ (true && !true) = true by decide)] at hn
    refine Ev.step (fun k=>by rw [numnahref07_Fair.j4,if_pos hf,if_pos (by omega),hrl,if_pos (by omega),hr1 hf,tab_length,tab_b hil,wrap_succ (by omega)];rfl) (Ev.bind (ev_rsub (lf_fits hN hF hq hil hf)) ?_)
    refine Ev.congr (fun k=>if_pos (by omega)) (Ev.bind (ev_rhasN hN hil q) ?_)
    exact Ev.congr (fun k=>if_pos hh) (Ev.congr (fun k=>if_pos (by omega)) (Ev.congr (fun k=>if_pos hf) hn))
   ·have hf':fix i = false:=by simpa using hf
    rw [hh,hf',if_neg (show ¬ (true && false) = true by decide),if_pos (show (true && !false) = true from rfl)] at hn
    obtain ⟨_,e2,_,e4⟩:=w_nat hN hil
    have hwl:=wN_cnt hN fix q i (by omega)
    have hcm:=cnt_m i fix
    have ew:wrap64 ((wN (netOf p u) u fix q i:Int) + (rd_T45 u (i:Int)).f0) = ((wN (netOf p u) u fix q i + (rd_T45 u (i:Int)).f0.toNat:Nat):Int):=by
     rw [wrap_id (by omega) (by omega)]
     omega
    refine Ev.step (fun k=>by rw [numnahref07_Fair.j4,if_neg hf,if_pos (by omega),if_pos (by omega),tab_length,tab_b hil,wrap_succ (by omega),ew]) (Ev.bind (ev_rhasN hN hil q) ?_)
    exact Ev.congr (fun k=>if_pos hh) (Ev.congr (fun k=>if_pos (by omega)) (Ev.congr (fun k=>if_neg hf) hn))
  ·have hh':(netOf p u).has i q = false:=by simpa using hh
   rw [hh',if_neg (show ¬ (false && !fix i) = true by simp),if_neg (show ¬ (false && fix i) = true by simp)] at hn
   refine Ev.congr (fun k=>if_neg hh) ?_
   refine Ev.step (fun k=>by rw [numnahref07_Fair.j4,if_neg (by decide),if_pos (by omega),if_pos (by omega),wrap_succ (by omega)]) (Ev.bind (ev_rhasN hN hil q) ?_)
   exact Ev.congr (fun k=>if_neg hh) hn
theorem rfair_l2 {z:S23} {c:Int} {v:List S23}:∀ d i b,i + d = p.length → Best p u fix r i b → Ev (fun k=>numnahref07_Fair.l4 k p u (rts u.length z fix r) (tab u.length fix) c (bP (srch p u fix r d i b)).1 0 (bP (srch p u fix r d i b)).2.1 (bP (srch p u fix r d i b)).2.2) v →
  Ev (fun k=>numnahref07_Fair.l2 k p u (rts u.length z fix r) (tab u.length fix) c (bP b).1 (i:Int) (bP b).2.1 (bP b).2.2) v:=by
 intro d
 have h5:=hN.p5
 induction d with
 | zero =>
  intro i b hi hB hv
  refine Ev.step (fun k=>?_) hv
  rw [numnahref07_Fair.l2,if_neg (by omega)];rfl
 | succ d ih =>
  intro i b hi hB hv
  have hil:i < p.length:=by omega
  have hn:=ih (i + 1) (better p u fix r i b) (by omega) (hB.next hil) hv
  have e:lf (netOf p u) fix r i 0 = ((rd p (i:Int):Int):Rat):=by
   unfold lf;rw [S_nil]
   show ((rd p (i:Int):Int):Rat) - 0 = _
   grind
  have h3:=fun hb=>rfair_l3 hN hF (z:=z) (c:=c) (b0:=(bP b).1) (b1:=(bP b).2.1) (b2:=(bP b).2.2) (v:=v) hil hb u.length 0 (by omega)
  rw [e,whole_num,whole_den] at h3
  refine Ev.step (fun k=>by rw [numnahref07_Fair.l2,if_pos (by omega),if_pos (by omega)]) ?_
  unfold numnahref07_Whole.f
  simp only [Option.bind_some]
  refine h3 ?_
  unfold better at hn
  by_cases hw:wN (netOf p u) u fix i u.length = 0
  ·rw [if_pos hw] at hn
   exact Ev.congr (fun k=>if_pos hw) hn
  ·rw [if_neg hw] at hn
   refine Ev.congr (fun k=>if_neg hw) ?_
   cases b with
   | none=>exact Ev.congr (fun k=>if_pos (by decide)) hn
   | some am =>
    obtain ⟨h1,h2,h3',_⟩:=hB
    have hc:=rless (mu_fits hN hF hil hw h1 h2)
    rw [← h3'] at hc
    refine Ev.congr (fun k=>if_neg (show ¬ ((am.1:Int) < 0) by omega)) ?_
    refine Ev.congr (fun k=>congrArg (fun z=>Option.bind z _) hc) ?_
    have hn':Ev (fun k=>numnahref07_Fair.l2 k p u (rts u.length z fix r) (tab u.length fix) c (bP (if muq p u fix r i < am.2 then some (i,muq p u fix r i) else some am)).1 ((i + 1:Nat):Int) (bP (if muq p u fix r i < am.2 then some (i,muq p u fix r i) else some am)).2.1 (bP (if muq p u fix r i < am.2 then some (i,muq p u fix r i) else some am)).2.2) v:=hn
    by_cases hlt:muq p u fix r i < am.2
    ·rw [if_pos hlt] at hn'
     exact Ev.congr (fun k=>if_pos (decide_eq_true hlt)) hn'
    ·rw [if_neg hlt] at hn'
     exact Ev.congr (fun k=>if_neg (by rw [decide_eq_false hlt];decide)) hn'
theorem rfair_l4 {z:S23} {v:List S23} {am:Nat × Rat} (hB:Best p u fix r p.length (some am)) (hv:Ev (fun k=>numnahref07_Fair.l1 k p u (rts u.length z (fixN p u fix am.1) (rN p u fix r am.1 am.2)) (tab u.length (fixN p u fix am.1)) (cnt u.length (fixN p u fix am.1):Int)) v):∀ d i,i + d = u.length →
  Ev (fun k=>numnahref07_Fair.l4 k p u (rts u.length z (fixI p u fix am.1 i) (rI p u fix r am.1 am.2 i)) (tab u.length (fixI p u fix am.1 i)) (cnt u.length (fixI p u fix am.1 i):Int) (am.1:Int) (i:Int) am.2.num (am.2.den:Int)) v:=by
 intro d
 have h6:=hN.u6
 induction d with
 | zero =>
  intro i hi
  obtain rfl:i = u.length:=by omega
  have e:cnt u.length (fixI p u fix am.1 u.length) = cnt u.length (fixN p u fix am.1):=cnt_congr _ _ _ fun v hv=>by unfold fixI;rw [if_pos hv]
  rw [last_lists.1,(last_lists (r:=r) (z:=z) (m:=am.2)).2,e]
  refine Ev.step (fun k=>?_) hv
  rw [numnahref07_Fair.l4,if_neg (by omega)]
 | succ d ih =>
  intro i hi
  have hil:i < u.length:=by omega
  have hn:=ih (i + 1) (by omega)
  have hlr:(rts u.length z (fixI p u fix am.1 i) (rI p u fix r am.1 am.2 i)).length = u.length:=tab_length _ _
  have hfi:fixI p u fix am.1 i i = fix i:=by unfold fixI;rw [if_neg (by omega)]
  refine Ev.step (fun k=>by rw [numnahref07_Fair.l4,if_pos (by omega),if_pos (by omega),tab_length,tab_b hil,hfi,hlr,wrap_succ (by omega)]) (Ev.bind (ev_rhasN hN hil am.1) ?_)
  have same:¬ (fix i = false ∧ (netOf p u).has i am.1 = true) → cnt u.length (fixI p u fix am.1 (i + 1)) = cnt u.length (fixI p u fix am.1 i):=fun h=>by
   have:=(next_same (r:=r) (z:=z) (m:=am.2) h).2
   refine cnt_congr _ _ _ fun v hv=>?_
   rw [← tab_b (f:=fixI p u fix am.1 (i + 1)) hv,this,tab_b hv]
  by_cases hh:(netOf p u).has i am.1 = true
  ·refine Ev.congr (fun k=>if_pos hh) (Ev.congr (fun k=>if_pos (by omega)) ?_)
   by_cases hf:fix i = true
   ·have hno:¬ (fix i = false ∧ (netOf p u).has i am.1 = true):=fun h=>by rw [hf] at h;cases h.1
    rw [(next_same hno).1,(next_same (r:=r) (z:=z) (m:=am.2) hno).2,same hno] at hn
    exact Ev.congr (fun k=>if_pos hf) hn
   ·have hf':fix i = false:=by simpa using hf
    have hc:cnt u.length (fixI p u fix am.1 (i + 1)) + 1 = cnt u.length (fixI p u fix am.1 i):=by
     refine cnt_upd _ _ _ i hil (by rw [hfi];exact hf') ?_ ?_
     ·unfold fixI fixN
      rw [if_pos (by omega),hh,Bool.or_true]
     ·intro v e
      unfold fixI
      by_cases e2:v < i
      ·rw [if_pos (by omega),if_pos e2]
      ·rw [if_neg (by omega),if_neg e2]
    have hcm:=cnt_m u.length (fixI p u fix am.1 i)
    have ec:wrap64 ((cnt u.length (fixI p u fix am.1 i):Int) - 1) = (cnt u.length (fixI p u fix am.1 (i + 1)):Int):=by
     rw [wrap_id (by omega) (by omega)];omega
    rw [(next_set ⟨hf',hh⟩).1,(next_set (r:=r) (z:=z) (m:=am.2) ⟨hf',hh⟩).2,← ec] at hn
    obtain ⟨h1,h2,h3,_⟩:=hB
    have hmu:=mu_num hN hF h1 h2
    rw [← h3] at hmu
    obtain ⟨_,e2,_,e4⟩:=w_nat hN hil
    have hsm:(am.2.num * (rd_T45 u (i:Int)).f0).natAbs < 9223372036854775808:=by
     rw [Int.natAbs_mul]
     exact Nat.lt_of_le_of_lt (Nat.mul_le_mul hmu.1 (show (rd_T45 u (i:Int)).f0.natAbs ≤ 4 by omega)) (by decide)
    have ht:=ev_frac (am.2.num * (rd_T45 u (i:Int)).f0) am.2.den (den_pos _) hsm (by omega)
    rw [mk_times] at ht
    have ht2:Ev (fun k=>numnahref07_Reduced.f k (wrap64 (am.2.num * (rd_T45 u (i:Int)).f0)) (am.2.den:Int)) ((am.2 * ((rd_T45 u (i:Int)).f0:Rat)).num,((am.2 * ((rd_T45 u (i:Int)).f0:Rat)).den:Int)):=by
     rw [wrap_abs hsm]
     exact Ev.congr (fun k=>ref_reduced k _ _) ht
    exact Ev.congr (fun k=>if_neg hf) (Ev.bind ht2 (Ev.congr (fun k=>if_pos (by omega)) hn))
  ·have hno:¬ (fix i = false ∧ (netOf p u).has i am.1 = true):=fun h=>hh h.2
   rw [(next_same hno).1,(next_same (r:=r) (z:=z) (m:=am.2) hno).2,same hno] at hn
   exact Ev.congr (fun k=>if_neg hh) hn
end
section
variable {p:List Int} {u:List S45} (hN:IsN p u)
include hN
theorem rfair_l1 (z:S23):∀ c (fix:Nat → Bool) (r:Nat → Rat) (lam:Rat) (D:Nat),FS p u fix r lam D → cnt u.length fix ≤ c → ∃ x,FairR p u x ∧ Ev (fun k=>numnahref07_Fair.l1 k p u (rts u.length z fix r) (tab u.length fix) (cnt u.length fix:Int)) (encL x):=by
 intro c
 have h6:=hN.u6
 induction c with
 | zero =>
  intro fix r lam D hF hc
  obtain ⟨h1,h2⟩:=hF.done hN (by omega) z
  refine ⟨_,h1,?_⟩
  rw [h2]
  refine Ev.step (f:=fun _=>some (encL (tab u.length r))) (fun k=>?_) (Ev.now _)
  rw [numnahref07_Fair.l1,if_neg (by omega)]
 | succ c ih =>
  intro fix r lam D hF hc
  by_cases h0:0 < cnt u.length fix
  ·obtain ⟨am,hs,hB⟩:=some_best hN hF h0
   obtain ⟨hF2,hlt⟩:=hF.next hN hB
   obtain ⟨x,hx,hv⟩:=ih _ _ _ _ hF2 (by omega)
   refine ⟨x,hx,Ev.step (fun k=>by rw [numnahref07_Fair.l1,if_pos (by omega)]) ?_⟩
   refine rfair_l2 hN hF p.length 0 none (by omega) (fun q hq=>by omega) ?_
   rw [hs]
   have h:=rfair_l4 hN hF hB hv u.length 0 (by omega)
   have e:cnt u.length (fixI p u fix am.1 0) = cnt u.length fix:=cnt_congr _ _ _ fun v hv=>by unfold fixI;rw [if_neg (by omega)]
   rw [first_lists.1,(first_lists (r:=r) (z:=z) (m:=am.2)).2,e] at h
   exact h
  ·exact ih fix r lam D hF (by omega)
theorem rfair_l0:∀ d i,i + d = u.length → ∃ x,FairR p u x ∧ Ev (fun k=>numnahref07_Fair.l0 k p u (tab u.length (fun v=>if v < i then (⟨0,1⟩:S23) else z23)) (tab u.length (fun _=>false)) (i:Int)) (encL x):=by
 intro d
 have h6:=hN.u6
 induction d with
 | zero =>
  intro i hi
  obtain rfl:i = u.length:=by omega
  obtain ⟨x,hx,hv⟩:=rfair_l1 hN ⟨0,1⟩ (cnt u.length (fun _=>false)) (fun _=>false) (fun _=>0) 0 1 (FS.start hN _) (Nat.le_refl _)
  refine ⟨x,hx,Ev.step (fun k=>?_) hv⟩
  have e:cnt u.length (fun _=>false) = u.length:=by
   unfold cnt
   exact (List.countP_eq_length.2 (fun _ _=>rfl)).trans List.length_range
  rw [numnahref07_Fair.l0,if_neg (by omega),e]
  congr 1
  exact tab_congr fun v hv=>by rw [if_pos hv];rfl
 | succ d ih =>
  intro i hi
  obtain ⟨x,hx,hv⟩:=ih (i + 1) (by omega)
  refine ⟨x,hx,Ev.step (fun k=>?_) hv⟩
  rw [numnahref07_Fair.l0,if_pos (by omega),numnahref07_Whole.f]
  simp only [Option.bind_some]
  rw [if_pos (by omega),tab_length,if_pos (by omega),wrap_succ (by omega),Int.toNat_natCast,tab_set]
  congr 1
  refine tab_congr fun v hv=>?_
  by_cases e:v = i
  ·subst e;rw [if_pos rfl,if_pos (by omega)]
  ·by_cases e2:v < i
   ·rw [if_neg e,if_pos e2,if_pos (by omega)]
   ·rw [if_neg e,if_neg e2,if_neg (by omega)]
theorem ev_rfair0:∃ x,FairR p u x ∧ Ev (fun k=>numnahref07_Fair.f k p u) (encL x):=by
 have h6:=hN.u6
 obtain ⟨x,hx,hv⟩:=rfair_l0 hN u.length 0 (by omega)
 refine ⟨x,hx,?_⟩
 unfold numnahref07_Fair.f
 refine Ev.congr (fun k=>if_pos (by omega)) (Ev.congr (fun k=>if_pos (by omega)) (Ev.congr (fun k=>if_pos (by omega)) ?_))
 rw [Int.toNat_natCast,tab_rep,tab_rep]
 have e:tab u.length (fun v=>if v < 0 then (⟨0,1⟩:S23) else z23) = tab u.length (fun _=>z23):=tab_congr fun v _=>by rw [if_neg (by omega)]
 rw [e] at hv
 exact hv
theorem FairR.eq {x y:List Rat} (hx:FairR p u x) (hy:FairR p u y):x = y:=by
 have h:=Net.unique (wpos hN) hx.fair hy.fair
 apply List.ext_getElem
 ·rw [hx.len,hy.len]
 ·intro i h1 h2
  have:=h i (by have:=hx.len;show i < u.length;omega)
  rwa [rt_get h1,rt_get h2] at this
theorem fair_both:∃ x,FairR p u x ∧ Ev (fun k=>shares_net_fair.f k p u) (encL x) ∧ Ev (fun k=>numnahref07_Fair.f k p u) (encL x):=by
 obtain ⟨x,hx,e1⟩:=ev_fair hN
 obtain ⟨y,hy,e2⟩:=ev_rfair0 hN
 rw [← hx.eq hN hy] at e2
 exact ⟨x,hx,e1,e2⟩
theorem fair_part {x:List Rat} {D:Nat} (d0:0 < D) (hb:∀ v,v < u.length → 0 ≤ rt x v ∧ rt x v ≤ ((200:Nat):Rat) ∧ (rt x v).den ∣ D) (q:Nat):∀ i,i ≤ u.length → (part (netOf p u) (rt x) q i).den ∣ D ∧ 0 ≤ part (netOf p u) (rt x) q i ∧ part (netOf p u) (rt x) q i ≤ ((200 * i:Nat):Rat)
 | 0,_=>⟨by rw [show part (netOf p u) (rt x) q 0 = 0 from rfl];exact Nat.one_dvd _,Rat.le_refl,by rw [show part (netOf p u) (rt x) q 0 = 0 from rfl];exact Rat.natCast_nonneg⟩
 | i + 1,h=>by
  obtain ⟨h1,h2,h3⟩:=fair_part d0 hb q i (by omega)
  obtain ⟨a,b,c⟩:=hb i (by omega)
  have e:((200 * (i + 1):Nat):Rat) = ((200 * i:Nat):Rat) + ((200:Nat):Rat):=by push_cast;grind
  have z:(0:Rat) ≤ ((200:Nat):Rat):=Rat.natCast_nonneg
  rw [part_succ,e]
  split
  ·exact ⟨add_den_dvd' h1 c d0,by grind,by grind⟩
  ·exact ⟨h1,h2,by grind⟩
theorem FairR.ok {x:List Rat} (hx:FairR p u x):OkR p u x:=by
 obtain ⟨D,d0,dD,hb⟩:=hx.bd
 have h6:=hN.u6
 have z:∀ n:Nat,(0:Rat) ≤ (n:Rat):=fun n=>Rat.natCast_nonneg
 have sm:∀ {q:Rat} {B:Nat},0 ≤ q → q ≤ (B:Rat) → q.den ≤ 2949120 → q.num.natAbs ≤ B * 2949120:=fun {q B} h0 h1 hd=>by
  have h5:=num_bound (B:=B) (by have:=z B;grind) h1
  exact Nat.le_trans h5 (Nat.mul_le_mul_left _ hd)
 have hr:∀ i,i < u.length → (rt x i).num.natAbs ≤ 589824000 ∧ (rt x i).den ≤ 2949120:=fun i hi=>by
  obtain ⟨a,b,c⟩:=hb i hi
  have hd:(rt x i).den ≤ 2949120:=Nat.le_trans (Nat.le_of_dvd d0 c) dD
  have:=sm a b hd
  exact ⟨by omega,hd⟩
 have hl:∀ i,i < u.length → (rt x i / (netOf p u).w i).num.natAbs ≤ 2359296000 ∧ (rt x i / (netOf p u).w i).den ≤ 11796480:=fun i hi=>by
  obtain ⟨e1,_,e3,e4⟩:=w_nat hN hi
  obtain ⟨a,b,c⟩:=hb i hi
  rw [e1]
  have n0:0 < (rd_T45 u (i:Int)).f0.toNat:=by omega
  have h1:=Nat.le_of_dvd (Nat.mul_pos (den_pos _) n0) (over_den (rt x i) n0)
  have h2:(rt x i).den * (rd_T45 u (i:Int)).f0.toNat ≤ 2949120 * 4:=Nat.mul_le_mul (hr i hi).2 e4
  have h3:=over_le n0 a
  have h5:=num_bound (B:=200) (by have:=z 200;grind) (Rat.le_trans h3.2 b)
  have h7:200 * (rt x i / (((rd_T45 u (i:Int)).f0.toNat:Nat):Rat)).den ≤ 200 * 11796480:=Nat.mul_le_mul_left _ (by omega)
  exact ⟨by omega,by omega⟩
 have fits:∀ {a b:Rat} {A B D E:Nat},a.num.natAbs ≤ A → a.den ≤ D → b.num.natAbs ≤ B → b.den ≤ E → A * E + B * D < 9223372036854775808 → D * E < 9223372036854775808 → Fits a b:=fun a1 a2 b1 b2 h h2 =>
  ⟨Nat.lt_of_le_of_lt (Nat.add_le_add (Nat.mul_le_mul a1 b2) (Nat.mul_le_mul b1 a2)) h,Nat.lt_of_le_of_lt (Nat.mul_le_mul a2 b2) h2⟩
 refine ⟨hx.len,fun q i hi=>?_,fun i j hi hj=>?_,fun i hi=>?_,fun i hi=>?_⟩
 ·obtain ⟨h1,h2,h3⟩:=fair_part hN d0 hb q i (by omega)
  have hd:(part (netOf p u) (rt x) q i).den ≤ 2949120:=Nat.le_trans (Nat.le_of_dvd d0 h1) dD
  have h4:=sm h2 (Rat.le_trans h3 (Rat.natCast_le_natCast.2 (by omega:200 * i ≤ 1200))) hd
  exact fits (A:=3538944000) (by omega) hd (hr i hi).1 (hr i hi).2 (by decide) (by decide)
 ·exact fits (hl i hi).1 (hl i hi).2 (hl j hj).1 (hl j hj).2 (by decide) (by decide)
 ·exact Nat.lt_of_le_of_lt (hr i hi).1 (by decide)
 ·have:=(hr i hi).2;omega
end
end Go.Proofs.Ytjohcjfmlhihbaa.P
namespace Go.Proofs.Ytjohcjfmlhihbaa.G
open Go.RowKit Go.Proofs.YtjohcjfmlhihbaaW.PrintWords Go.Proofs.YtjohcjfmlhihbaaW.PrintLast Go.Proofs.YtjohcjfmlhihbaaW.PrintMore
set_option maxHeartbeats 8000000
set_option maxRecDepth 100000
attribute [local go_sem] cond_true cond_false fld23_0 fld23_1 fld45_0 fld45_1 fld109_0 fld109_1 fld94_0 fld94_1 max2_int min2_int max_two min_two max_three min_three max_four min_four
attribute [local go_sem high] eqA23
def shares_Fair.l0:Nat → List (S23) → List Int → Int → Int → List Int → List (S45) → Option ((List (S23)) × List Int × Int)
 | 0,_,_,_,_,_,_=>none
 | k + 1,x9,h4,x23,h5,b8,b9=>if h5 < x23 then ((shares_net_held.f k b8 b9 x9 h5).bind fun b7=>(if h4.length < 17592186044416 then (shares_Fair.l0 k x9 (h4 ++ [b7]) x23 (wrap64 (h5 + 1)) b8 b9) else (none))) else (some (x9,h4,0))
def shares_Fair.f (k:Nat) (l0:List Int) (l1:List (S45)):Option ((List (S23)) × List Int × Int):=(shares_newNet.f k l0 l1).bind fun d1=>(if d1 = true then ((shares_net_fair.f k l0 l1).bind fun b1=>(shares_Fair.l0 k b1 ([]:List Int) (l1.length:Int) 0 l0 l1)) else (some (([]:List (S23)),([]:List Int),2)))
theorem shares_Fair.mono_l:∀ k,(∀ y0 y1 y2 y3 y4 y5,LeO (shares_Fair.l0 k y0 y1 y2 y3 y4 y5) (shares_Fair.l0 (k + 1) y0 y1 y2 y3 y4 y5))
 | 0=>fun _ _ _ _ _ _ r h=>by simp [shares_Fair.l0] at h
 | k + 1=>by
  have h6:=shares_Fair.mono_l k
  intro y0 y1 y2 y3 y4 y5
  unfold shares_Fair.l0
  repeat' first
  | (with_reducible first | exact h6 _ _ _ _ _ _ | exact shares_net_fair.mono _ _ _ | exact shares_net_held.mono _ _ _ _ _ | exact shares_newNet.mono _ _ _ | exact LeO.refl _ | exact LeO.none _ | refine LeO.ite ?_ ?_ | refine LeO.bind ?_ (fun _=>?_))
  | exact LeO.none _ | refine LeO.ite ?_ ?_ | refine LeO.bind ?_ (fun _=>?_)
theorem shares_Fair.mono:∀ a0 a1 k,LeO (shares_Fair.f k a0 a1) (shares_Fair.f (k + 1) a0 a1):=by
 intro a0 a1 k
 have h6:=shares_Fair.mono_l k
 unfold shares_Fair.f
 repeat' first
   | (with_reducible first | exact h6 _ _ _ _ _ _ | exact shares_net_fair.mono _ _ _ | exact shares_net_held.mono _ _ _ _ _ | exact shares_newNet.mono _ _ _ | exact LeO.refl _ | exact LeO.none _ | refine LeO.ite ?_ ?_ | refine LeO.bind ?_ (fun _=>?_))
   | exact LeO.none _ | refine LeO.ite ?_ ?_ | refine LeO.bind ?_ (fun _=>?_)
theorem shares_Fair.calls (k:Nat) (A0:Option Addr) (c0:Nat) (l0:List Int) (A1:Option Addr) (c1:Nat) (l1:List (S45)) (r1:List (S23)) (r2:List Int) (r3:Int) (w:World) (i6:Kd.C (Kd.int .i64) w A0 l0.length l0) (i7:l0.length ≤ c0) (i8:Kd.C k45 w A1 l1.length l1) (i9:l1.length ≤ c1) (h:shares_Fair.f k l0 l1 = some (r1,r2,r3)) :
  Calls Try.prog 32 #[.slice A0 l0.length c0,.slice A1 l1.length c1] w fun e w'=>∃ j5 j7:Value,e = .returned (.tuple #[j5,j7,.int .i64 r3]) ∧ Kd.R k23 23 w' w.heap.size (fun _=>True) j5 r1 ∧ Kd.R (Kd.int .i64) 3 w' w.heap.size (fun _=>True) j7 r2 ∧ Below w.heap.size w w':=by
 have j8:=Try.underlying109
 have e2:=A_ i6
 have e3:=A_ i7
 clear i6 i7
 have e4:=A_ i8
 have e5:=A_ i9
 clear i8 i9
 have HB:=A_ (Below.refl w.heap.size w)
 have H:((shares_newNet.f k l0 l1).bind fun d1=>(if d1 = true then ((shares_net_fair.f k l0 l1).bind fun b1=>(shares_Fair.l0 k b1 ([]:List Int) (l1.length:Int) 0 l0 l1)) else (some (([]:List (S23)),([]:List Int),2)))) = some (r1,r2,r3):=h
 clear h
 replace H:=Option.bind_eq_some_iff.mp H
 obtain ⟨d1,j9,H⟩:=H
 replace H:(if d1 = true then ((shares_net_fair.f k l0 l1).bind fun b1=>(shares_Fair.l0 k b1 ([]:List Int) (l1.length:Int) 0 l0 l1)) else (some (([]:List (S23)),([]:List Int),2))) = some (r1,r2,r3):=H
 have A3:=A_ j9
 clear j9
 by_cases c4:d1 = true
 case neg =>
  replace c4:=Bool.eq_false_iff.mpr c4
  subst c4
  rw [if_neg (show ¬ (false = true) by decide)] at H
  simp only [Option.some.injEq,Prod.mk.injEq] at H
  obtain ⟨rfl,rfl,rfl⟩:=H
  go_enter Try.func32,Try.ntmps32
  go_wp2_with (first | ((with_reducible refine gate_callee (f:=70) rfl ?_);refine gL (some 15) Try.func70 #[.slice A0 l0.length c0,.slice A1 l1.length c1] ?_;(with_reducible refine (shares_newNet.calls k _ _ l0 _ _ l1 false _ ?side1 ?side2 ?side3 ?side4 A3.out).mono ?_);(case side1=>repeat (first | exact e2.out | (with_reducible refine Kd.C_alloc ?_ _) | (with_reducible refine Kd.C_drewN ?_ _) | (with_reducible refine Kd.C_drew ?_)));(case side2=>exact e3.out);(case side3=>repeat (first | exact e4.out | (with_reducible refine Kd.C_alloc ?_ _) | (with_reducible refine Kd.C_drewN ?_ _) | (with_reducible refine Kd.C_drew ?_)));(case side4=>exact e5.out);rintro e m6 ⟨rfl,hb⟩;refine ⟨_,rfl,?_⟩;replace HB:=bB HB hb;(try clear hb)) | ((with_reducible refine gate_dst (N:=7) rfl ?_);refine bx 7 #[.slice none 0 0,.slice none 0 0] 109 ?_;intro d3 hg l5 hbox hb;have d0:=A_ hbox;have d4:=gw hg HB;have l6:=d4;replace HB:=bB HB hb;clear hb hbox hg;have e6:l5.cell? ⟨d3,0,none⟩ = some (.slice none 0 0):=cz d0 0;have e7:l5.cell? ⟨d3,1,none⟩ = some (.slice none 0 0):=cz d0 1;have e8:=blk_frozen d0.out 0;have e9:=blk_frozen d0.out 1))
  go_ret3
  exact ⟨_,_,rfl,by first | exact Kd.R_nil _ _ _ _ _ | exact Kd.N_nil _ _ _ _ _ | exact Kd.V_nil _ _ _ _ _ | exact Kd.Q_nil _ _ _ _ _ | exact Kd.S_nil _ _ _ _ _,by first | exact Kd.R_nil _ _ _ _ _ | exact Kd.N_nil _ _ _ _ _ | exact Kd.V_nil _ _ _ _ _ | exact Kd.Q_nil _ _ _ _ _ | exact Kd.S_nil _ _ _ _ _,bl HB⟩
 subst c4
 rw [if_pos rfl] at H
 replace H:=Option.bind_eq_some_iff.mp H
 obtain ⟨b1,l7,H⟩:=H
 replace H:(shares_Fair.l0 k b1 ([]:List Int) (l1.length:Int) 0 l0 l1) = some (r1,r2,r3):=H
 have A5:=A_ l7
 clear l7
 have H':=A_ H
 clear H
 go_enter Try.func32,Try.ntmps32
 go_wp2_with (first | ((with_reducible refine gate_callee (f:=70) rfl ?_);refine gL (some 15) Try.func70 #[.slice A0 l0.length c0,.slice A1 l1.length c1] ?_;(with_reducible refine (shares_newNet.calls k _ _ l0 _ _ l1 true _ ?side1 ?side2 ?side3 ?side4 A3.out).mono ?_);(case side1=>repeat (first | exact e2.out | (with_reducible refine Kd.C_alloc ?_ _) | (with_reducible refine Kd.C_drewN ?_ _) | (with_reducible refine Kd.C_drew ?_)));(case side2=>exact e3.out);(case side3=>repeat (first | exact e4.out | (with_reducible refine Kd.C_alloc ?_ _) | (with_reducible refine Kd.C_drewN ?_ _) | (with_reducible refine Kd.C_drew ?_)));(case side4=>exact e5.out);rintro e w6 ⟨rfl,hb⟩;refine ⟨_,rfl,?_⟩;replace HB:=bB HB hb;(try clear hb)) | ((with_reducible refine gate_dst (N:=7) rfl ?_);refine bx 7 #[.slice none 0 0,.slice none 0 0] 109 ?_;intro b3 hg w7 hbox hb;have b0:=A_ hbox;have d5:=gw hg HB;have l8:=d5;replace HB:=bB HB hb;clear hb hbox hg;have h7:w7.cell? ⟨b3,0,none⟩ = some (.slice none 0 0):=cz b0 0;have h8:w7.cell? ⟨b3,1,none⟩ = some (.slice none 0 0):=cz b0 1;have h9:=blk_frozen b0.out 0;have i0:=blk_frozen b0.out 1) | ((with_reducible refine gate_callee (f:=71) rfl ?_);refine gL (some 21) Try.func71 #[.agg #[.slice A0 l0.length c0,.slice A1 l1.length c1]] ?_;(with_reducible refine (shares_net_fair.calls k _ _ l0 _ _ l1 b1 _ ?side1 ?side2 ?side3 ?side4 A5.out).mono ?_);(case side1=>exact Kd.C_below e2.out (bl HB));(case side2=>exact e3.out);(case side3=>exact Kd.C_below e4.out (bl HB));(case side4=>exact e5.out);rintro e w9 ⟨i1,rfl,m1,hb⟩;refine ⟨_,rfl,?_⟩;have d6:=A_ (Kd.R_lower m1 (below_size (bl HB)));replace b0:=A_ (blk_below (g:=b3) (o:=.cells #[.slice A0 l0.length c0,.slice A1 l1.length c1] 109 (0,0)) (by (with_reducible repeat (first | refine blk_drewN ?_ _ | refine blk_drew ?_ | refine blk_alloc ?_ _));refine blk_put (cs:=#[.slice A0 l0.length c0,.slice none 0 0]) ?_ 1 _ rfl;(with_reducible repeat (first | refine blk_drewN ?_ _ | refine blk_drew ?_ | refine blk_alloc ?_ _));refine blk_put (cs:=#[.slice none 0 0,.slice none 0 0]) ?_ 0 _ rfl;(with_reducible repeat (first | refine blk_drewN ?_ _ | refine blk_drew ?_ | refine blk_alloc ?_ _));exact b0.out) hb);replace HB:=bB HB hb;(try clear hb)))
 go_loopg [10,24] k (fun kq m2 m3 w'=>∃ (b4:List Int) (b2:Int),m3 = .int .i64 b2 ∧ Aside0 (shares_Fair.l0 kq b1 b4 (l1.length:Int) b2 l0 l1 = some (r1,r2,r3)) ∧ Aside0 (kq ≤ k) ∧ Aside0 (Kd.R k23 23 w' w.heap.size (fun _=>True) i1 b1) ∧ Aside0 (Kd.R (Kd.int .i64) 3 w' w.heap.size (fun _=>True) m2 b4) ∧ Aside0 (w'.heap[b3]? = some (.cells #[(.slice A0 l0.length c0),(.slice A1 l1.length c1)] 109 (0,0))) ∧ Aside0 (Below w.heap.size w w'))
 case atStart=>exact ⟨(([]:List Int)),(0),rfl,H',⟨Nat.le_refl _⟩,⟨by (with_reducible repeat (first | apply Kd.R_alloc | apply Kd.R_drewN | apply Kd.R_drew));exact d6.out⟩,⟨by first | exact Kd.R_nil _ _ _ _ _ | exact Kd.N_nil _ _ _ _ _ | exact Kd.V_nil _ _ _ _ _ | exact Kd.Q_nil _ _ _ _ _ | exact Kd.S_nil _ _ _ _ _⟩,⟨by (with_reducible repeat (first | refine blk_drewN ?_ _ | refine blk_drew ?_ | refine blk_alloc ?_ _));exact b0.out⟩,⟨bl HB⟩⟩
 case round =>
  clear H'
  obtain ⟨b4,b2,rfl,HA,l9,b6,b5,b0,HB⟩:=hrel
  cases gk with
  | zero=>exact absurd HA.out (by simp [shares_Fair.l0])
  | succ k1 =>
   have H:=HA.out
   clear HA
   simp only [shares_Fair.l0] at H
   by_cases c10:b2 < (l1.length:Int)
   case neg =>
    rw [if_neg c10] at H
    have d7:=decide_eq_false c10
    clear c10
    simp only [Option.some.injEq,Prod.mk.injEq] at H
    obtain ⟨rfl,rfl,rfl⟩:=H
    go_wp2
    go_ret3
    exact ⟨_,_,rfl,by (with_reducible repeat (first | apply Kd.R_alloc | apply Kd.R_drewN | apply Kd.R_drew));exact b6.out,by (with_reducible repeat (first | apply Kd.R_alloc | apply Kd.R_drewN | apply Kd.R_drew));exact b5.out,bl HB⟩
   rw [if_pos c10] at H
   have d7:=decide_eq_true c10
   clear c10
   replace H:=Option.bind_eq_some_iff.mp H
   obtain ⟨b7,d8,H⟩:=H
   replace H:(if b4.length < 17592186044416 then (shares_Fair.l0 k1 b1 (b4 ++ [b7]) (l1.length:Int) (wrap64 (b2 + 1)) l0 l1) else (none)) = some (r1,r2,r3):=H
   have m4:=A_ d8
   clear d8
   replace H:=gd H
   obtain ⟨m0,H⟩:=H
   have d9:=A_ m0
   clear m0
   obtain ⟨i2,d2⟩:∃ y_:List Int,y_ = (b4 ++ [b7]):=⟨_,rfl⟩
   rw [← d2] at H
   have e0:=A_ d2
   clear d2
   have H':=A_ H
   clear H
   have h0:wr.cell? ⟨b3,0,none⟩ = some (.slice A0 l0.length c0):=cz b0 0
   have h1:wr.cell? ⟨b3,1,none⟩ = some (.slice A1 l1.length c1):=cz b0 1
   have h2:=blk_frozen b0.out 0
   have h3:=blk_frozen b0.out 1
   obtain ⟨i3,i4,i5⟩:=Kd.R_slice b6.out
   subst i5
   go_wp2_with (first | ((with_reducible refine gate_callee (f:=72) rfl ?_);refine gL (some 31) Try.func72 #[.agg #[.slice A0 l0.length c0,.slice A1 l1.length c1],.slice i3 b1.length i4,.int .i64 b2] ?_;(with_reducible refine (shares_net_held.calls k1 _ _ l0 _ _ l1 _ _ b1 b2 b7 _ ?side1 ?side2 ?side3 ?side4 ?side5 ?side6 m4.out).mono ?_);(case side1=>exact cB e2 HB);(case side2=>exact e3.out);(case side3=>exact cB e4 HB);(case side4=>exact e5.out);(case side5=>repeat (first | exact (Kd.R_reads' b6.out).2.2 | (with_reducible refine Kd.C_alloc ?_ _) | (with_reducible refine Kd.C_drewN ?_ _) | (with_reducible refine Kd.C_drew ?_)));(case side6=>exact (Kd.R_reads' b6.out).2.1);rintro e m7 ⟨rfl,hb⟩;refine ⟨_,rfl,?_⟩;replace b6:=rB b6 hb;replace b5:=rB b5 hb;replace b0:=kB b0 hb;replace HB:=bB HB hb;(try clear hb)) | ((with_reducible refine gate_builtin (b:=.append) (xs:=#[.tmp 27,.tmp 32]) rfl ?_);at_builtin;refine Kd.R_append (Kd.int .i64) (w0:=w) w.heap.size rfl (.tmp 27) (.tmp 32) 28 3 (.int .i64 0) 8 rfl Try.underlying28 info3 rfl (by decide) (by omega) u10 b4 b7 [.int .i64 b7] (fun _=>True) (fun _=>False) rfl rfl ?aP (fun _ hk=>hk.elim) ?aF ?aO ?aB ?aS ?aL ?_;(case aP=>exact rfl);(case aB=>exact HB.out);(case aF=>exact (fun _ _=>trivial));(case aO=>exact b5.out);(case aS=>exact (below_size HB.out));(case aL=>have:=d9.out;omega);intro m5 m8 ho hb hg hat;rw [← e0.out] at ho;have e1:=A_ ho;replace b6:=A_ (Kd.R_over' b6.out (Kd.R_typed b5.out) (by decide) hg);replace b0:=A_ (blk_grown (g:=b3) (o:=.cells #[.slice A0 l0.length c0,.slice A1 l1.length c1] 109 (0,0)) b0.out hg (Kd.R_ne b5.out b0.out (by decide)));replace HB:=A_ hb;clear b5;clear ho hb hg hat))
   go_roundg k1
   case measure=>have:=l9.out;omega
   case rel=>exact ⟨(i2),(wrap64 (b2 + 1)),rfl,H',⟨by have:=l9.out;omega⟩,⟨by (with_reducible repeat (first | apply Kd.R_alloc | apply Kd.R_drewN | apply Kd.R_drew));exact b6.out⟩,⟨by (with_reducible repeat (first | apply Kd.R_alloc | apply Kd.R_drewN | apply Kd.R_drew));exact e1.out⟩,⟨by (with_reducible repeat (first | refine blk_drewN ?_ _ | refine blk_drew ?_ | refine blk_alloc ?_ _));exact b0.out⟩,⟨bl HB⟩⟩
end Go.Proofs.Ytjohcjfmlhihbaa.G
set_option linter.unusedSectionVars false
namespace Go.Proofs.Ytjohcjfmlhihbaa.P
open Go Go.RowKit Go.Proofs.Ytjohcjfmlhihbaa.G
open Go.Proofs.YtjohcjfmlhihbaaW.PrintWords Go.Proofs.YtjohcjfmlhihbaaW.PrintMore
def heldI (p:List Int) (u:List S45) (x:List Rat) (i:Nat):Int:=firstI (fun q=>holdsB (netOf p u) (rt x) q i) p.length 0
theorem tab_I {m:Nat} {f:Nat → Int} {i:Nat} (h:i < m):rd (tab m f) (i:Int) = f i:=by
 rw [rd_get (by rw [tab_length];exact h),tab_get]
theorem tab_succ {α:Type} (m:Nat) (f:Nat → α):tab m f ++ [f m] = tab (m + 1) f:=by
 unfold tab
 rw [List.range_succ,List.map_append];rfl
section
variable {p:List Int} {u:List S45} (hN:IsN p u) {x:List Rat} (hx:OkR p u x)
include hN hx
theorem Fair_l0:∀ d i,i + d = u.length → Ev (fun k=>shares_Fair.l0 k (encL x) (tab i (heldI p u x)) (u.length:Int) (i:Int) p u) (encL x,tab u.length (heldI p u x),0):=by
 intro d
 have h6:=hN.u6
 induction d with
 | zero =>
  intro i hi
  obtain rfl:i = u.length:=by omega
  refine Ev.step (f:=fun _=>some (encL x,tab u.length (heldI p u x),0)) (fun k=>?_) (Ev.now _)
  rw [shares_Fair.l0,if_neg (by omega)]
 | succ d ih =>
  intro i hi
  have hil:i < u.length:=by omega
  have hn:=ih (i + 1) (by omega)
  rw [← tab_succ] at hn
  refine Ev.step (fun k=>by rw [shares_Fair.l0,if_pos (by omega),wrap_succ (by omega)]) (Ev.bind (ev_held hN hx hil) ?_)
  exact Ev.congr (fun k=>if_pos (by rw [tab_length];omega)) hn
end
theorem ev_Fair {p:List Int} {u:List S45} (hok:okNet p u = true) (hp:p.length ≤ 1000000) (hu:u.length ≤ 1000000) (hf:H.fitL p) (hul:∀ a ∈ u,a.f1.length ≤ 1000000):∃ x,FairR p u x ∧ Ev (fun k=>shares_Fair.f k p u) (encL x,tab u.length (heldI p u x),0) ∧ Ev (fun k=>numnahref07_Fair.f k p u) (encL x):=by
 have hN:=isN hok
 have e0:=ev_newNet (p:=p) (u:=u) hp hu hf hul
 rw [hok] at e0
 obtain ⟨x,hx,e1,e2⟩:=fair_both hN
 refine ⟨x,hx,?_,e2⟩
 unfold shares_Fair.f
 exact Ev.bind e0 (Ev.bind e1 (Fair_l0 hN (hx.ok hN) u.length 0 (by omega)))
end Go.Proofs.Ytjohcjfmlhihbaa.P
namespace Go.Proofs.Ytjohcjfmlhihbaa.G
open Go.RowKit Go.Proofs.YtjohcjfmlhihbaaW.PrintWords Go.Proofs.YtjohcjfmlhihbaaW.PrintLast Go.Proofs.YtjohcjfmlhihbaaW.PrintMore
set_option maxHeartbeats 8000000
set_option maxRecDepth 100000
attribute [local go_sem] cond_true cond_false fld23_0 fld23_1 fld45_0 fld45_1 fld109_0 fld109_1 fld94_0 fld94_1 max2_int min2_int max_two min_two max_three min_three max_four min_four   -- for this text's walks alone
def numnahlaw07_pick.f (l0:List Int) (a1:Int) (a2:Int):Option (Int):=if a1 ≥ (l0.length:Int) then (if a2 = 0 then (none) else (some (Int.tmod (wrap64 (a1 + 1)) a2))) else (if 0 ≤ a1 then (if a1 < (l0.length:Int) then ((numnahlaw07_mod.f (rd l0 a1) a2).bind fun b0=>(some b0)) else (none)) else (none))
theorem numnahlaw07_pick.calls (A0:Option Addr) (c0:Nat) (l0:List Int) (a1:Int) (a2:Int) (r:Int) (w:World) (b7:Kd.C (Kd.int .i64) w A0 l0.length l0) (b8:l0.length ≤ c0) (h:numnahlaw07_pick.f l0 a1 a2 = some r) :
  Calls Try.prog 86 #[.slice A0 l0.length c0,.int .i64 a1,.int .i64 a2] w fun e w'=>e = .returned (.int .i64 r) ∧ Drawn0 w w':=by
 have c1:=Aside0.mk b7
 have d4:=Aside0.mk b8
 clear b7 b8
 have H:(if a1 ≥ (l0.length:Int) then (if a2 = 0 then (none) else (some (Int.tmod (wrap64 (a1 + 1)) a2))) else (if 0 ≤ a1 then (if a1 < (l0.length:Int) then ((numnahlaw07_mod.f (rd l0 a1) a2).bind fun b0=>(some b0)) else (none)) else (none))) = some r:=h
 clear h
 by_cases c4:a1 ≥ (l0.length:Int)
 ·rw [if_pos c4] at H
  have b5:decide ((l0.length:Int) ≤ a1) = true:=decide_eq_true c4
  clear c4
  by_cases c5:a2 = 0
  ·rw [if_pos c5] at H
   exact absurd H (by simp)
  rw [if_neg c5] at H
  have d0:(a2 == 0) = false:=beq_eq_false_iff_ne.mpr c5
  have d1:(a2 != 0) = true:=bne_iff_ne.mpr c5
  obtain rfl:=Option.some.inj H
  go_enter Try.func86,Try.ntmps86
  go_wp2
  go_ret
  exact ⟨by first | rfl | (simp;done) | (simp [*];done),by repeat (first | exact Drawn0.refl _ | apply Drawn0.step)⟩
 rw [if_neg c4] at H
 have b5:decide ((l0.length:Int) ≤ a1) = false:=decide_eq_false c4
 clear c4
 by_cases c6:0 ≤ a1
 case neg =>
  rw [if_neg c6] at H
  exact absurd H (by simp)
 rw [if_pos c6] at H
 have d2:decide (0 ≤ a1) = true:=decide_eq_true c6
 clear c6
 by_cases c7:a1 < (l0.length:Int)
 case neg =>
  rw [if_neg c7] at H
  exact absurd H (by simp)
 rw [if_pos c7] at H
 have d3:decide (a1 < (l0.length:Int)) = true:=decide_eq_true c7
 clear c7
 replace H:=Option.bind_eq_some_iff.mp H
 obtain ⟨b0,b9,H⟩:=H
 replace H:(some b0) = some r:=H
 have A8:=Aside0.mk b9
 clear b9
 obtain rfl:=Option.some.inj H
 have b1:0 ≤ (a1:Int):=of_decide_eq_true (by first | (with_reducible assumption) | assumption)
 have b2:a1 < (l0.length:Int):=of_decide_eq_true (by first | (with_reducible assumption) | assumption)
 obtain ⟨b6,b3,b4⟩:=Kd.at_int c1.out a1 b1 b2
 cases b3
 replace b1:=eq_true b1
 replace b2:=eq_true b2
 go_enter Try.func86,Try.ntmps86
 go_wp2_with (first | ((with_reducible refine gate_callee (f:=29) rfl ?_);refine goesL_ (some 20) rfl rfl Try.func29 (by kernel_rfl) rfl #[.int .i64 (rd l0 a1),.int .i64 a2] rfl (by (try simp only [List.map_toArray,List.map_cons,List.map_nil]);first | done | rfl | (simp only [List.length_drop,List.length_take];rfl)) ?_;(with_reducible refine (numnahlaw07_mod.calls (rd l0 a1) a2 b0 _ A8.out).mono ?_);rintro e w' ⟨rfl,⟨nd,rfl⟩⟩;refine ⟨_,rfl,?_⟩))
 go_ret
 exact ⟨by first | rfl | (simp;done) | (simp [*];done),by repeat (first | exact Drawn0.refl _ | apply Drawn0.step)⟩
end Go.Proofs.Ytjohcjfmlhihbaa.G
namespace Go.Proofs.Ytjohcjfmlhihbaa.G
open Go.RowKit Go.Proofs.YtjohcjfmlhihbaaW.PrintWords Go.Proofs.YtjohcjfmlhihbaaW.PrintLast Go.Proofs.YtjohcjfmlhihbaaW.PrintMore
set_option maxHeartbeats 8000000
set_option maxRecDepth 100000
attribute [local go_sem] cond_true cond_false fld23_0 fld23_1 fld45_0 fld45_1 fld109_0 fld109_1 fld94_0 fld94_1 max2_int min2_int max_two min_two max_three min_three max_four min_four
mutual
def numnahlaw07_plant.l0:Nat → List Int → Int → Int → List Int → Int → Option (List Int × (List (S45)))
 | 0,_,_,_,_,_=>none
 | k + 1,x0,x4,x5,x6,x7=>if x7 < x4 then ((numnahlaw07_pick.f x0 (wrap64 (2 + x7)) 201).bind fun d7=>(if x6.length < 17592186044416 then (numnahlaw07_plant.l0 k x0 x4 x5 (x6 ++ [d7]) (wrap64 (x7 + 1))) else (none))) else (numnahlaw07_plant.l1 k x0 x4 x5 x6 ([]:List (S45)) 0)
def numnahlaw07_plant.l1:Nat → List Int → Int → Int → List Int → List (S45) → Int → Option (List Int × (List (S45)))
 | 0,_,_,_,_,_,_=>none
 | k + 1,x0,x4,x5,x6,x8,x9=>if x9 < x5 then ((numnahlaw07_pick.f x0 (wrap64 ((wrap64 (2 + x4)) + (wrap64 (2 * x9)))) 4).bind fun b3=>(if 0 ≤ x4 then ((numnahlaw07_pick.f x0 (wrap64 ((wrap64 (3 + x4)) + (wrap64 (2 * x9)))) (wrap64 ((shl .i64 1 x4) - 1))).bind fun b9=>(numnahlaw07_plant.l2 k x0 x4 x5 x6 x8 x9 (wrap64 (1 + b9)) 0 (wrap64 (1 + b3)) ([]:List Int))) else (none))) else (some (x6,x8))
def numnahlaw07_plant.l2:Nat → List Int → Int → Int → List Int → List (S45) → Int → Int → Int → Int → List Int → Option (List Int × (List (S45)))
 | 0,_,_,_,_,_,_,_,_,_,_=>none
 | k + 1,x0,x4,x5,x6,x8,x9,n7,i2,d8,d4=>if i2 < x4 then (if 0 ≤ i2 then (if (Int.tmod (shr .i64 n7 i2) 2) = 1 then (if d4.length < 17592186044416 then (numnahlaw07_plant.l2 k x0 x4 x5 x6 x8 x9 n7 (wrap64 (i2 + 1)) d8 (d4 ++ [i2])) else (none)) else (numnahlaw07_plant.l2 k x0 x4 x5 x6 x8 x9 n7 (wrap64 (i2 + 1)) d8 d4)) else (none)) else (if x8.length < 4398046511104 then (numnahlaw07_plant.l1 k x0 x4 x5 x6 (x8 ++ [(⟨d8,d4⟩:S45)]) (wrap64 (x9 + 1))) else (none))
end
def numnahlaw07_plant.f (k:Nat) (l0:List Int):Option (List Int × (List (S45))):=(numnahlaw07_pick.f l0 0 5).bind fun b7=>((numnahlaw07_pick.f l0 1 6).bind fun b6=>(numnahlaw07_plant.l0 k l0 (wrap64 (1 + b7)) (wrap64 (1 + b6)) ([]:List Int) 0))
theorem numnahlaw07_plant.mono_l:∀ k,(∀ y0 y1 y2 y3 y4,LeO (numnahlaw07_plant.l0 k y0 y1 y2 y3 y4) (numnahlaw07_plant.l0 (k + 1) y0 y1 y2 y3 y4)) ∧ (∀ y0 y1 y2 y3 y4 y5,LeO (numnahlaw07_plant.l1 k y0 y1 y2 y3 y4 y5) (numnahlaw07_plant.l1 (k + 1) y0 y1 y2 y3 y4 y5)) ∧ (∀ y0 y1 y2 y3 y4 y5 y6 y7 y8 y9,LeO (numnahlaw07_plant.l2 k y0 y1 y2 y3 y4 y5 y6 y7 y8 y9) (numnahlaw07_plant.l2 (k + 1) y0 y1 y2 y3 y4 y5 y6 y7 y8 y9))
 | 0=>⟨fun _ _ _ _ _ r h=>by simp [numnahlaw07_plant.l0] at h,fun _ _ _ _ _ _ r h=>by simp [numnahlaw07_plant.l1] at h,fun _ _ _ _ _ _ _ _ _ _ r h=>by simp [numnahlaw07_plant.l2] at h⟩
 | k + 1=>by
  obtain ⟨i6,i7,i8⟩:=numnahlaw07_plant.mono_l k
  refine ⟨?_,?_,?_⟩
  ·intro y0 y1 y2 y3 y4
   unfold numnahlaw07_plant.l0
   repeat' first
   | (with_reducible first | exact i6 _ _ _ _ _ | exact i7 _ _ _ _ _ _ | exact i8 _ _ _ _ _ _ _ _ _ _ | exact LeO.refl _ | exact LeO.none _ | refine LeO.ite ?_ ?_ | refine LeO.bind ?_ (fun _=>?_))
   | exact LeO.none _ | refine LeO.ite ?_ ?_ | refine LeO.bind ?_ (fun _=>?_)
  ·intro y0 y1 y2 y3 y4 y5
   unfold numnahlaw07_plant.l1
   repeat' first
   | (with_reducible first | exact i6 _ _ _ _ _ | exact i7 _ _ _ _ _ _ | exact i8 _ _ _ _ _ _ _ _ _ _ | exact LeO.refl _ | exact LeO.none _ | refine LeO.ite ?_ ?_ | refine LeO.bind ?_ (fun _=>?_))
   | exact LeO.none _ | refine LeO.ite ?_ ?_ | refine LeO.bind ?_ (fun _=>?_)
  intro y0 y1 y2 y3 y4 y5 y6 y7 y8 y9
  unfold numnahlaw07_plant.l2
  repeat' first
  | (with_reducible first | exact i6 _ _ _ _ _ | exact i7 _ _ _ _ _ _ | exact i8 _ _ _ _ _ _ _ _ _ _ | exact LeO.refl _ | exact LeO.none _ | refine LeO.ite ?_ ?_ | refine LeO.bind ?_ (fun _=>?_))
  | exact LeO.none _ | refine LeO.ite ?_ ?_ | refine LeO.bind ?_ (fun _=>?_)
theorem numnahlaw07_plant.mono:∀ a0 k,LeO (numnahlaw07_plant.f k a0) (numnahlaw07_plant.f (k + 1) a0):=by
 intro a0 k
 obtain ⟨i6,i7,i8⟩:=numnahlaw07_plant.mono_l k
 unfold numnahlaw07_plant.f
 repeat' first
   | (with_reducible first | exact i6 _ _ _ _ _ | exact i7 _ _ _ _ _ _ | exact i8 _ _ _ _ _ _ _ _ _ _ | exact LeO.refl _ | exact LeO.none _ | refine LeO.ite ?_ ?_ | refine LeO.bind ?_ (fun _=>?_))
   | exact LeO.none _ | refine LeO.ite ?_ ?_ | refine LeO.bind ?_ (fun _=>?_)
theorem numnahlaw07_plant.calls (k:Nat) (A0:Option Addr) (c0:Nat) (l0:List Int) (r1:List Int) (r2:List (S45)) (w:World) (o7:Kd.C (Kd.int .i64) w A0 l0.length l0) (o8:l0.length ≤ c0) (h:numnahlaw07_plant.f k l0 = some (r1,r2)) :
  Calls Try.prog 52 #[.slice A0 l0.length c0] w fun e w'=>∃ n8 o9:Value,e = .returned (.tuple #[n8,o9]) ∧ Kd.R (Kd.int .i64) 3 w' w.heap.size (fun _=>True) n8 r1 ∧ Kd.S k45 45 w' w.heap.size (fun k_=>some k_ ≠ (n8:Value).ownBlock) o9 r2 ∧ Below w.heap.size w w':=by
 have q5:=Try.underlying45
 have i9:=A_ o7
 have j5:=A_ o8
 clear o7 o8
 have HB:=A_ (Below.refl w.heap.size w)
 have H:((numnahlaw07_pick.f l0 0 5).bind fun b7=>((numnahlaw07_pick.f l0 1 6).bind fun b6=>(numnahlaw07_plant.l0 k l0 (wrap64 (1 + b7)) (wrap64 (1 + b6)) ([]:List Int) 0))) = some (r1,r2):=h
 clear h
 replace H:=Option.bind_eq_some_iff.mp H
 obtain ⟨b7,p0,H⟩:=H
 replace H:((numnahlaw07_pick.f l0 1 6).bind fun b6=>(numnahlaw07_plant.l0 k l0 (wrap64 (1 + b7)) (wrap64 (1 + b6)) ([]:List Int) 0)) = some (r1,r2):=H
 have A2:=A_ p0
 clear p0
 replace H:=Option.bind_eq_some_iff.mp H
 obtain ⟨b6,p1,H⟩:=H
 replace H:(numnahlaw07_plant.l0 k l0 (wrap64 (1 + b7)) (wrap64 (1 + b6)) ([]:List Int) 0) = some (r1,r2):=H
 have A3:=A_ p1
 clear p1
 have H':=A_ H
 clear H
 go_enter Try.func52,Try.ntmps52
 go_wp2_with (first | ((with_reducible refine gate_callee (f:=86) rfl ?_);refine gL (some 14) Try.func86 #[.slice A0 l0.length c0,.int .i64 0,.int .i64 5] ?_;(with_reducible refine (numnahlaw07_pick.calls _ _ l0 0 5 b7 _ ?side1 ?side2 A2.out).mono ?_);(case side1=>repeat (first | exact i9.out | (with_reducible refine Kd.C_alloc ?_ _) | (with_reducible refine Kd.C_drewN ?_ _) | (with_reducible refine Kd.C_drew ?_)));(case side2=>exact j5.out);rintro e w' ⟨rfl,⟨nd,rfl⟩⟩;refine ⟨_,rfl,?_⟩) | ((with_reducible refine gate_callee (f:=86) rfl ?_);refine gL (some 17) Try.func86 #[.slice A0 l0.length c0,.int .i64 1,.int .i64 6] ?_;(with_reducible refine (numnahlaw07_pick.calls _ _ l0 1 6 b6 _ ?side1 ?side2 A3.out).mono ?_);(case side1=>repeat (first | exact i9.out | (with_reducible refine Kd.C_alloc ?_ _) | (with_reducible refine Kd.C_drewN ?_ _) | (with_reducible refine Kd.C_drew ?_)));(case side2=>exact j5.out);rintro e w' ⟨rfl,⟨nd,rfl⟩⟩;refine ⟨_,rfl,?_⟩))
 go_loopg [6,7] k (fun kq v6 v7 w'=>∃ (d2:List Int) (e1:Int),v7 = .int .i64 e1 ∧ Aside0 (numnahlaw07_plant.l0 kq l0 (wrap64 (1 + b7)) (wrap64 (1 + b6)) d2 e1 = some (r1,r2)) ∧ Aside0 (kq ≤ k) ∧ Aside0 (Kd.R (Kd.int .i64) 3 w' w.heap.size (fun _=>True) v6 d2) ∧ Aside0 (Below w.heap.size w w'))
 case atStart=>exact ⟨(([]:List Int)),(0),(by first | rfl | (simp;done) | (simp [*];done)),H',⟨Nat.le_refl _⟩,⟨by first | exact Kd.R_nil _ _ _ _ _ | exact Kd.N_nil _ _ _ _ _ | exact Kd.V_nil _ _ _ _ _ | exact Kd.Q_nil _ _ _ _ _ | exact Kd.S_nil _ _ _ _ _⟩,⟨bl HB⟩⟩
 case round =>
  clear H'
  obtain ⟨d2,e1,rfl,HA,h4,d0,HB⟩:=hrel
  cases gk with
  | zero=>exact absurd HA.out (by simp [numnahlaw07_plant.l0])
  | succ k1 =>
   have H:=HA.out
   clear HA
   simp only [numnahlaw07_plant.l0] at H
   by_cases c4:e1 < (wrap64 (1 + b7))
   ·rw [if_pos c4] at H
    have j7:=decide_eq_true c4
    clear c4
    replace H:=Option.bind_eq_some_iff.mp H
    obtain ⟨d7,p2,H⟩:=H
    replace H:(if d2.length < 17592186044416 then (numnahlaw07_plant.l0 k1 l0 (wrap64 (1 + b7)) (wrap64 (1 + b6)) (d2 ++ [d7]) (wrap64 (e1 + 1))) else (none)) = some (r1,r2):=H
    have A5:=A_ p2
    clear p2
    replace H:=gd H
    obtain ⟨c6,H⟩:=H
    have n9:=A_ c6
    clear c6
    obtain ⟨j8,e4⟩:∃ y_:List Int,y_ = (d2 ++ [d7]):=⟨_,rfl⟩
    rw [← e4] at H
    have h5:=A_ e4
    clear e4
    have H':=A_ H
    clear H
    go_wp2_with (first | ((with_reducible refine gate_callee (f:=86) rfl ?_);refine gL (some 28) Try.func86 #[.slice A0 l0.length c0,.int .i64 (wrap64 (2 + e1)),.int .i64 201] ?_;(with_reducible refine (numnahlaw07_pick.calls _ _ l0 (wrap64 (2 + e1)) 201 d7 _ ?side1 ?side2 A5.out).mono ?_);(case side1=>exact cB i9 HB);(case side2=>exact j5.out);rintro e w' ⟨rfl,⟨nd,rfl⟩⟩;refine ⟨_,rfl,?_⟩) | ((with_reducible refine gate_builtin (b:=.append) (xs:=#[.tmp 24,.tmp 29]) rfl ?_);at_builtin;refine Kd.R_append (Kd.int .i64) (w0:=w) w.heap.size rfl (.tmp 24) (.tmp 29) 28 3 (.int .i64 0) 8 rfl Try.underlying28 info3 rfl (by decide) (by omega) u6 d2 d7 [.int .i64 d7] (fun _=>True) (fun _=>False) rfl rfl ?aP (fun _ hk=>hk.elim) ?aF ?aO ?aB ?aS ?aL ?_;(case aP=>exact rfl);(case aB=>exact (bl HB));(case aF=>exact (fun _ _=>trivial));(case aO=>exact (rs d0));(case aS=>exact (below_size (bl HB)));(case aL=>have:=n9.out;omega);intro p3 w7 ho hb hg hat;rw [← h5.out] at ho;have h6:=A_ ho;replace HB:=A_ hb;clear d0;clear ho hb hg hat))
    go_roundg k1
    case measure=>have:=h4.out;omega
    case rel=>exact ⟨(j8),(wrap64 (e1 + 1)),(by first | rfl | (simp;done) | (simp [*];done)),H',⟨by have:=h4.out;omega⟩,⟨by (with_reducible repeat (first | apply Kd.R_alloc | apply Kd.R_drewN | apply Kd.R_drew));exact h6.out⟩,⟨bl HB⟩⟩
   rw [if_neg c4] at H
   have j7:=decide_eq_false c4
   clear c4
   have H':=A_ H
   clear H
   go_wp2
   go_loopg [8,9] k1 (fun kq v8 v9 w'=>∃ (d5:List (S45)) (d1:Int),v9 = .int .i64 d1 ∧ Aside0 (numnahlaw07_plant.l1 kq l0 (wrap64 (1 + b7)) (wrap64 (1 + b6)) d2 d5 d1 = some (r1,r2)) ∧ Aside0 (kq ≤ k1) ∧ Aside0 (Kd.R (Kd.int .i64) 3 w' w.heap.size (fun _=>True) u6 d2) ∧ Aside0 (Kd.S k45 45 w' w.heap.size (fun k_=>some k_ ≠ (u6:Value).ownBlock) v8 d5) ∧ Aside0 (Below w.heap.size w w'))
   case atStart=>exact ⟨(([]:List (S45))),(0),(by first | rfl | (simp;done) | (simp [*];done)),H',⟨Nat.le_refl _⟩,⟨by (with_reducible repeat (first | apply Kd.R_alloc | apply Kd.R_drewN | apply Kd.R_drew));exact d0.out⟩,⟨by first | exact Kd.S_nil _ _ _ _ _ | exact Kd.N_nil _ _ _ _ _ | exact Kd.V_nil _ _ _ _ _ | exact Kd.Q_nil _ _ _ _ _ | exact Kd.R_nil _ _ _ _ _⟩,⟨bl HB⟩⟩
   case round =>
    clear H'
    obtain ⟨d5,d1,rfl,HA,i3,d0,d3,HB⟩:=hrel
    cases gk with
    | zero=>exact absurd HA.out (by simp [numnahlaw07_plant.l1])
    | succ k2 =>
     have H:=HA.out
     clear HA
     simp only [numnahlaw07_plant.l1] at H
     by_cases c8:d1 < (wrap64 (1 + b6))
     case neg =>
      rw [if_neg c8] at H
      have o0:=decide_eq_false c8
      clear c8
      simp only [Option.some.injEq,Prod.mk.injEq] at H
      obtain ⟨rfl,rfl⟩:=H
      go_wp2
      go_ret2
      exact ⟨_,_,by first | rfl | (simp [errW_none,errW_some] <;> rfl) | (simp [*,errW_none,errW_some] <;> rfl),by (with_reducible repeat (first | apply Kd.R_alloc | apply Kd.R_drewN | apply Kd.R_drew));exact d0.out,by (with_reducible repeat (first | apply Kd.S_alloc | apply Kd.S_drewN | apply Kd.S_drew));exact d3.out,bl HB⟩
     rw [if_pos c8] at H
     have o0:=decide_eq_true c8
     clear c8
     replace H:=Option.bind_eq_some_iff.mp H
     obtain ⟨b3,p4,H⟩:=H
     replace H:(if 0 ≤ (wrap64 (1 + b7)) then ((numnahlaw07_pick.f l0 (wrap64 ((wrap64 (3 + (wrap64 (1 + b7)))) + (wrap64 (2 * d1)))) (wrap64 ((shl .i64 1 (wrap64 (1 + b7))) - 1))).bind fun b9=>(numnahlaw07_plant.l2 k2 l0 (wrap64 (1 + b7)) (wrap64 (1 + b6)) d2 d5 d1 (wrap64 (1 + b9)) 0 (wrap64 (1 + b3)) ([]:List Int))) else (none)) = some (r1,r2):=H
     have A9:=A_ p4
     clear p4
     obtain ⟨b8,d6⟩:∃ j_:Int,(wrap64 (1 + b7)) = j_:=⟨_,rfl⟩
     replace H:(if 0 ≤ (b8) then ((numnahlaw07_pick.f l0 (wrap64 ((wrap64 (3 + (b8))) + (wrap64 (2 * d1)))) (wrap64 ((shl .i64 1 (b8)) - 1))).bind fun b9=>(numnahlaw07_plant.l2 k2 l0 (b8) (wrap64 (1 + b6)) d2 d5 d1 (wrap64 (1 + b9)) 0 (wrap64 (1 + b3)) ([]:List Int))) else (none)) = some (r1,r2):=by first | (rw [d6] at H;exact H) | (simp only [d6] at H ⊢;exact H)
     (try rw [d6] at j7)
     (try rw [d6] at A9)
     have hji10w:(IntKind.i64.wrap (1 + b7)) = b8:=(i64_w _).trans d6
     replace H:=gd H
     obtain ⟨o1,H⟩:=H
     have p5:=eq_true o1
     have p6:=decide_eq_true o1
     clear o1
     obtain ⟨e0,d9⟩:∃ j_:Int,(shl .i64 1 (b8)) = j_:=⟨_,rfl⟩
     replace H:((numnahlaw07_pick.f l0 (wrap64 ((wrap64 (3 + (b8))) + (wrap64 (2 * d1)))) (wrap64 ((e0) - 1))).bind fun b9=>(numnahlaw07_plant.l2 k2 l0 (b8) (wrap64 (1 + b6)) d2 d5 d1 (wrap64 (1 + b9)) 0 (wrap64 (1 + b3)) ([]:List Int))) = some (r1,r2):=by first | (rw [d9] at H;exact H) | (simp only [d9] at H ⊢;exact H)
     (try rw [d9] at A9)
     have e8:(IntKind.i64.wrap (1 * 2 ^ min (b8).toNat 64)) = e0:=d9
     have hji12z:(b8) ≤ 64 → (IntKind.i64.wrap (1 * 2 ^ (b8).toNat)) = e0:=shl_small d9
     have hji12u:(IntKind.i64.wrap (2 ^ min (b8).toNat 64)) = e0:=by have h_:=e8;rw [Int.one_mul] at h_;exact h_
     have hji12v:(b8) ≤ 64 → (IntKind.i64.wrap (2 ^ (b8).toNat)) = e0:=fun hle_=>by have h_:=hji12z hle_;rw [Int.one_mul] at h_;exact h_
     have hji12y:(wrap64 (1 * 2 ^ min (b8).toNat 64)) = e0:=(i64_w _).symm.trans e8
     have hji12x:(b8) ≤ 64 → (wrap64 (1 * 2 ^ (b8).toNat)) = e0:=fun h_=>(i64_w _).symm.trans (hji12z h_)
     replace H:=Option.bind_eq_some_iff.mp H
     obtain ⟨b9,j9,H⟩:=H
     replace H:(numnahlaw07_plant.l2 k2 l0 (b8) (wrap64 (1 + b6)) d2 d5 d1 (wrap64 (1 + b9)) 0 (wrap64 (1 + b3)) ([]:List Int)) = some (r1,r2):=H
     have q6:=A_ j9
     clear j9
     have H':=A_ H
     clear H
     go_wp2_with (first | ((with_reducible refine gate_callee (f:=86) rfl ?_);refine goesL_ (some 42) rfl rfl Try.func86 (by kernel_rfl) rfl #[.slice A0 l0.length c0,.int .i64 (wrap64 ((wrap64 (2 + (b8))) + (wrap64 (2 * d1)))),.int .i64 4] rfl (by (try simp only [List.map_toArray,List.map_cons,List.map_nil]);first | done | (simp only [d6];rfl) | rfl | (simp only [List.length_drop,List.length_take];rfl)) ?_;(with_reducible refine (numnahlaw07_pick.calls _ _ l0 (wrap64 ((wrap64 (2 + (b8))) + (wrap64 (2 * d1)))) 4 b3 _ ?side1 ?side2 A9.out).mono ?_);(case side1=>exact cB i9 HB);(case side2=>exact j5.out);rintro e w' ⟨rfl,⟨nd,rfl⟩⟩;refine ⟨_,rfl,?_⟩;(try (rw [drewN_self wr];generalize hq_:World.drewN wr _ = wr;replace d0:Aside0 (Kd.R (Kd.int .i64) 3 wr w.heap.size (fun _=>True) u6 d2):=⟨by rw [← hq_];exact (rs d0)⟩;replace d3:Aside0 (Kd.S k45 45 wr w.heap.size (fun k_=>some k_ ≠ (u6:Value).ownBlock) u8 d5):=⟨by rw [← hq_];exact (by (with_reducible repeat (first | apply Kd.S_alloc | apply Kd.S_drewN | apply Kd.S_drew));exact d3.out)⟩;replace HB:Aside0 (Below w.heap.size w wr):=⟨by rw [← hq_];exact (bl HB)⟩;clear hq_))) | ((with_reducible refine gate_dst (N:=10) rfl ?_);refine bx 10 #[.int .i64 0,.slice none 0 0] 45 ?_;intro b2 hg p7 hbox hb;have b1:=A_ hbox;have h7:=gw hg HB;have o2:=h7;replace d0:=rB d0 hb;replace d3:=A_ (Kd.S_below (Kd.S_elderB (by (with_reducible repeat (first | apply Kd.S_alloc | apply Kd.S_drewN | apply Kd.S_drew));exact d3.out) b2 (Nat.le_of_eq hg.symm)) hb);replace HB:=bB HB hb;clear hb hbox hg;have m1:p7.cell? ⟨b2,0,none⟩ = some (.int .i64 0):=cz b1 0;have m2:p7.cell? ⟨b2,1,none⟩ = some (.slice none 0 0):=cz b1 1;have m3:=blk_frozen b1.out 0;have m4:=blk_frozen b1.out 1) | ((with_reducible refine gate_callee (f:=86) rfl ?_);refine goesL_ (some 54) rfl rfl Try.func86 (by kernel_rfl) rfl #[.slice A0 l0.length c0,.int .i64 (wrap64 ((wrap64 (3 + (b8))) + (wrap64 (2 * d1)))),.int .i64 (wrap64 ((e0) - 1))] rfl (by (try simp only [List.map_toArray,List.map_cons,List.map_nil]);first | done | (simp only [d6,d9];rfl) | rfl | (simp only [List.length_drop,List.length_take];rfl)) ?_;(with_reducible refine (numnahlaw07_pick.calls _ _ l0 (wrap64 ((wrap64 (3 + (b8))) + (wrap64 (2 * d1)))) (wrap64 ((e0) - 1)) b9 _ ?side1 ?side2 q6.out).mono ?_);(case side1=>exact Kd.C_below i9.out (bl HB));(case side2=>exact j5.out);rintro e w' ⟨rfl,⟨nd,rfl⟩⟩;refine ⟨_,rfl,?_⟩))
     go_loopg [12] k2 (fun kq q7 w'=>∃ (c1:Int) (b0:List Int) (b4:Value),q7 = .int .i64 c1 ∧ Aside0 (numnahlaw07_plant.l2 kq l0 (b8) (wrap64 (1 + b6)) d2 d5 d1 (wrap64 (1 + b9)) c1 (wrap64 (1 + b3)) b0 = some (r1,r2)) ∧ Aside0 (kq ≤ k2) ∧ Aside0 (Kd.R (Kd.int .i64) 3 w' w.heap.size (fun k_=>some k_ ≠ (b4:Value).ownBlock) u6 d2) ∧ Aside0 (Kd.S k45 45 w' w.heap.size (fun k_=>some k_ ≠ (u6:Value).ownBlock ∧ some k_ ≠ (b4:Value).ownBlock ∧ k_ ≠ b2) u8 d5) ∧ Aside0 (Kd.R (Kd.int .i64) 3 w' w.heap.size (fun k_=>some k_ ≠ (u6:Value).ownBlock) b4 b0) ∧ Aside0 (w'.heap[b2]? = some (.cells #[.int .i64 (wrap64 (1 + b3)),b4] 45 (0,0))) ∧ Aside0 (Below w.heap.size w w'))
     case atStart=>exact ⟨(0),(([]:List Int)),(.slice none 0 0),(by first | rfl | (simp;done) | (simp [*];done)),H',⟨Nat.le_refl _⟩,⟨by (with_reducible repeat (first | apply Kd.R_alloc | apply Kd.R_drewN | apply Kd.R_drew));exact Kd.R_mono (Kd.R_far (p:=⟨b2,1,none⟩) (Kd.R_far (p:=⟨b2,0,none⟩) (Kd.R_types d0.out b1.out (by decide)) (fun _ hk=>hk.2) (.int .i64 (wrap64 (1 + b3)))) (fun _ hk=>hk.2) (.slice none 0 0)) (fun _ hk=>(by simp [Value.ownBlock]))⟩,⟨by (with_reducible repeat (first | apply Kd.S_alloc | apply Kd.S_drewN | apply Kd.S_drew));exact Kd.S_mono (Kd.S_far (p:=⟨b2,1,none⟩) (Kd.S_far (p:=⟨b2,0,none⟩) (Kd.S_mono d3.out (fun k_ hk=>(⟨hk,hk.2⟩:_ ∧ k_ ≠ b2))) (fun _ hk=>hk.2) (.int .i64 (wrap64 (1 + b3)))) (fun _ hk=>hk.2) (.slice none 0 0)) (fun _ hk=>⟨hk.1.1,⟨(by simp [Value.ownBlock]),hk.1.2⟩⟩)⟩,⟨by first | exact Kd.R_nil _ _ _ _ _ | exact Kd.N_nil _ _ _ _ _ | exact Kd.V_nil _ _ _ _ _ | exact Kd.Q_nil _ _ _ _ _ | exact Kd.S_nil _ _ _ _ _⟩,⟨by (with_reducible repeat (first | refine blk_drewN ?_ _ | refine blk_drew ?_ | refine blk_alloc ?_ _));refine blk_put (cs:=#[.int .i64 (wrap64 (1 + b3)),.slice none 0 0]) ?_ 1 _ rfl;(with_reducible repeat (first | refine blk_drewN ?_ _ | refine blk_drew ?_ | refine blk_alloc ?_ _));refine blk_put (cs:=#[.int .i64 0,.slice none 0 0]) ?_ 0 _ rfl;(with_reducible repeat (first | refine blk_drewN ?_ _ | refine blk_drew ?_ | refine blk_alloc ?_ _));exact b1.out⟩,⟨bl HB⟩⟩
     case round =>
      clear H'
      obtain ⟨c1,b0,b4,rfl,HA,i4,d0,d3,b5,b1,HB⟩:=hrel
      cases gk with
      | zero=>exact absurd HA.out (by simp [numnahlaw07_plant.l2])
      | succ k3 =>
       have H:=HA.out
       clear HA
       simp only [numnahlaw07_plant.l2] at H
       by_cases i5:c1 < (b8)
       case neg =>
        rw [if_neg i5] at H
        have l5:=decide_eq_false i5
        clear i5
        replace H:=gd H
        obtain ⟨p8,H⟩:=H
        have l6:=A_ p8
        clear p8
        obtain ⟨l7,e5⟩:∃ y_:List (S45),y_ = (d5 ++ [(⟨(wrap64 (1 + b3)),b0⟩:S45)]):=⟨_,rfl⟩
        rw [← e5] at H
        have h8:=A_ e5
        clear e5
        have H':=A_ H
        clear H
        have m5:wr.cell? ⟨b2,0,none⟩ = some (.int .i64 (wrap64 (1 + b3))):=cz b1 0
        have m6:wr.cell? ⟨b2,1,none⟩ = some (b4):=cz b1 1
        have m7:=blk_frozen b1.out 0
        have m8:=blk_frozen b1.out 1
        obtain ⟨h0,h1,o3⟩:=Kd.R_slice b5.out
        subst o3
        go_wp2_with (first | ((with_reducible refine gate_builtin (b:=.append) (xs:=#[.tmp 72,.tmp 74]) rfl ?_);at_builtin;refine Kd.S_append k45 (w0:=w) w.heap.size rfl (.tmp 72) (.tmp 74) 43 45 (.agg #[(.int .i64 0),(.slice none 0 0)]) 32 rfl Try.underlying43 info45 rfl (by decide) (by omega) u8 d5 (⟨(wrap64 (1 + b3)),b0⟩:S45) [.int .i64 (wrap64 (1 + b3)),.slice h0 b0.length h1] (fun k_=>some k_ ≠ (u6:Value).ownBlock ∧ k_ ≠ b2) (fun k_=>some k_ = (.slice h0 b0.length h1:Value).ownBlock) rfl rfl ?aP (fun k_ hk_=>((Kd.R_mono (ok':=fun k_=>((fun k_=>some k_ ≠ (u6:Value).ownBlock ∧ k_ ≠ b2)) k_ ∧ some k_ ≠ (u8:Value).ownBlock) (Kd.R_types (Kd.R_apart' (b5.out) (Kd.S_typed d3.out) (by decide)) b1.out (by decide)) (fun k_ hk=>⟨⟨hk.1.1,hk.2⟩,hk.1.2⟩))).1 k_ hk_.symm) ?aF ?aO ?aB ?aS ?aL ?_;(case aP=>exact k45_mkM _ _ _ (⟨(wrap64 (1 + b3)),b0⟩:S45) (Kd.R_mono (Kd.R_tight rfl (Kd.R_mono (ok':=fun k_=>((fun k_=>some k_ ≠ (u6:Value).ownBlock ∧ k_ ≠ b2)) k_ ∧ some k_ ≠ (u8:Value).ownBlock) (Kd.R_types (Kd.R_apart' (b5.out) (Kd.S_typed d3.out) (by decide)) b1.out (by decide)) (fun k_ hk=>⟨⟨hk.1.1,hk.2⟩,hk.1.2⟩))) (fun _ h_=>h_)));(case aB=>exact (bl HB));(case aF=>exact (fun k_ hk=>⟨Kd.fresh' (Kd.R_lt (rs d0)) k_ hk,Kd.freshB (g:=b2) (o:=.cells #[.int .i64 (wrap64 (1 + b3)),.slice h0 b0.length h1] 45 (0,0)) (kb b1) k_ hk⟩));(case aO=>exact (by (with_reducible repeat (first | apply Kd.S_alloc | apply Kd.S_drewN | apply Kd.S_drew));exact Kd.S_mono d3.out (fun k_ hk=>⟨⟨hk.1,hk.2.2⟩,fun e_=>hk.2.1 e_⟩)));(case aS=>exact (below_size (bl HB)));(case aL=>have:=l6.out;omega);intro p9 q8 ho hb hg hat;rw [← h8.out] at ho;have h9:=A_ ho;replace d0:=A_ (Kd.R_over' (rs d0) (Kd.S_typed (by (with_reducible repeat (first | apply Kd.S_alloc | apply Kd.S_drewN | apply Kd.S_drew));exact d3.out)) (by decide) hg);replace b1:=A_ (blk_grown (g:=b2) (o:=.cells #[.int .i64 (wrap64 (1 + b3)),.slice h0 b0.length h1] 45 (0,0)) (kb b1) hg (Kd.S_away d3.out (fun _ hk=>hk.2.2)));replace HB:=A_ hb;clear d3 b5;clear ho hb hg hat))
        (try simp only [← d6] at H' ⊢)
        go_roundg k3
        case measure=>have:=h4.out;have:=i3.out;have:=i4.out;omega
        case rel=>exact ⟨(l7),(wrap64 (d1 + 1)),(by first | rfl | (simp;done) | (simp [*];done)),H',⟨by have:=h4.out;have:=i3.out;have:=i4.out;omega⟩,⟨by (with_reducible repeat (first | apply Kd.R_alloc | apply Kd.R_drewN | apply Kd.R_drew));exact Kd.R_mono d0.out (fun _ hk=>trivial)⟩,⟨by (with_reducible repeat (first | apply Kd.S_alloc | apply Kd.S_drewN | apply Kd.S_drew));exact Kd.S_mono h9.out (fun _ hk=>hk.1)⟩,⟨bl HB⟩⟩
       rw [if_pos i5] at H
       have l5:=decide_eq_true i5
       clear i5
       replace H:=gd H
       obtain ⟨o4,H⟩:=H
       have q0:=eq_true o4
       have q1:=decide_eq_true o4
       clear o4
       obtain ⟨e2,e7⟩:∃ j_:Int,(shr .i64 (wrap64 (1 + b9)) c1) = j_:=⟨_,rfl⟩
       replace H:(if (Int.tmod (e2) 2) = 1 then (if b0.length < 17592186044416 then (numnahlaw07_plant.l2 k3 l0 (b8) (wrap64 (1 + b6)) d2 d5 d1 (wrap64 (1 + b9)) (wrap64 (c1 + 1)) (wrap64 (1 + b3)) (b0 ++ [c1])) else (none)) else (numnahlaw07_plant.l2 k3 l0 (b8) (wrap64 (1 + b6)) d2 d5 d1 (wrap64 (1 + b9)) (wrap64 (c1 + 1)) (wrap64 (1 + b3)) b0)) = some (r1,r2):=by first | (rw [e7] at H;exact H) | (simp only [e7] at H ⊢;exact H)
       have o5:((wrap64 (1 + b9)) / 2 ^ min c1.toNat 64) = e2:=e7
       have hji18z:c1 ≤ 64 → ((wrap64 (1 + b9)) / 2 ^ c1.toNat) = e2:=shr_small e7
       by_cases i0:(Int.tmod (e2) 2) = 1
       case neg =>
        rw [if_neg i0] at H
        have l8:((Int.tmod (e2) 2) == 1) = false:=beq_eq_false_iff_ne.mpr i0
        have l9:((Int.tmod (e2) 2) != 1) = true:=bne_iff_ne.mpr i0
        have H':=A_ H
        clear H
        go_wp2
        go_roundg k3
        case measure=>have:=h4.out;have:=i3.out;have:=i4.out;omega
        case rel=>exact ⟨(wrap64 (c1 + 1)),(b0),(b4),(by first | rfl | (simp;done) | (simp [*];done)),H',⟨by have:=h4.out;have:=i3.out;have:=i4.out;omega⟩,⟨by (with_reducible repeat (first | apply Kd.R_alloc | apply Kd.R_drewN | apply Kd.R_drew));exact d0.out⟩,⟨by (with_reducible repeat (first | apply Kd.S_alloc | apply Kd.S_drewN | apply Kd.S_drew));exact d3.out⟩,⟨by (with_reducible repeat (first | apply Kd.R_alloc | apply Kd.R_drewN | apply Kd.R_drew));exact b5.out⟩,⟨by (with_reducible repeat (first | refine blk_drewN ?_ _ | refine blk_drew ?_ | refine blk_alloc ?_ _));exact b1.out⟩,⟨bl HB⟩⟩
       rw [if_pos i0] at H
       have l8:((Int.tmod (e2) 2) == 1) = true:=beq_iff_eq.mpr i0
       have l9:((Int.tmod (e2) 2) != 1) = false:=bne_eq_false_iff_eq.mpr i0
       clear i0
       replace H:=gd H
       obtain ⟨q2,H⟩:=H
       have m0:=A_ q2
       clear q2
       obtain ⟨e3,e6⟩:∃ y_:List Int,y_ = (b0 ++ [c1]):=⟨_,rfl⟩
       rw [← e6] at H
       have i1:=A_ e6
       clear e6
       have H':=A_ H
       clear H
       have m9:wr.cell? ⟨b2,0,none⟩ = some (.int .i64 (wrap64 (1 + b3))):=cz b1 0
       have n0:wr.cell? ⟨b2,1,none⟩ = some (b4):=cz b1 1
       have n1:=blk_frozen b1.out 0
       have n2:=blk_frozen b1.out 1
       go_wp2_with (first | ((with_reducible refine gate_builtin (b:=.append) (xs:=#[.tmp 67,.tmp 69]) rfl ?_);at_builtin;refine Kd.R_append (Kd.int .i64) (w0:=w) w.heap.size rfl (.tmp 67) (.tmp 69) 28 3 (.int .i64 0) 8 rfl Try.underlying28 info3 rfl (by decide) (by omega) b4 b0 c1 [.int .i64 c1] (fun k_=>some k_ ≠ (u6:Value).ownBlock) (fun _=>False) rfl rfl ?aP (fun _ hk=>hk.elim) ?aF ?aO ?aB ?aS ?aL ?_;(case aP=>exact rfl);(case aB=>exact (bl HB));(case aF=>exact (fun k_ hk=>Kd.fresh' (Kd.R_lt (rs d0)) k_ hk));(case aO=>exact (rs b5));(case aS=>exact (below_size (bl HB)));(case aL=>have:=m0.out;omega);intro q3 q4 ho hb hg hat;rw [← i1.out] at ho;have e9:=A_ ho;replace d0:=A_ (Kd.R_after (ok:=(fun _=>True)) (by (with_reducible repeat (first | apply Kd.R_alloc | apply Kd.R_drewN | apply Kd.R_drew));exact Kd.R_mono d0.out (fun _ hk=>⟨trivial,hk⟩)) hg hat);replace d3:=A_ (Kd.S_after (ok:=(fun k_=>some k_ ≠ (u6:Value).ownBlock ∧ k_ ≠ b2)) (by (with_reducible repeat (first | apply Kd.S_alloc | apply Kd.S_drewN | apply Kd.S_drew));exact Kd.S_mono d3.out (fun _ hk=>⟨⟨hk.1,hk.2.2⟩,hk.2.1⟩)) hg hat);replace b1:=A_ (blk_grown (g:=b2) (o:=.cells #[.int .i64 (wrap64 (1 + b3)),b4] 45 (0,0)) (kb b1) hg (Kd.R_ne b5.out b1.out (by decide)));replace HB:=A_ hb;clear b5;clear ho hb hg hat;obtain ⟨h2,h3,o6⟩:=Kd.R_slice e9.out;subst o6;have n3:q4.cell? ⟨b2,0,none⟩ = some (.int .i64 (wrap64 (1 + b3))):=cz b1 0;have n4:q4.cell? ⟨b2,1,none⟩ = some (b4):=cz b1 1;have n5:=blk_frozen b1.out 0;have n6:=blk_frozen b1.out 1))
       go_roundg k3
       case measure=>have:=h4.out;have:=i3.out;have:=i4.out;omega
       case rel=>exact ⟨(wrap64 (c1 + 1)),(e3),(.slice h2 e3.length h3),(by first | rfl | (simp;done) | (simp [*];done)),H',⟨by have:=h4.out;have:=i3.out;have:=i4.out;omega⟩,⟨by (with_reducible repeat (first | apply Kd.R_alloc | apply Kd.R_drewN | apply Kd.R_drew));exact Kd.R_mono (Kd.R_far (p:=⟨b2,1,none⟩) (Kd.R_types d0.out b1.out (by decide)) (fun _ hk=>hk.2) (.slice h2 e3.length h3)) (fun _ hk=>hk.1.2)⟩,⟨by (with_reducible repeat (first | apply Kd.S_alloc | apply Kd.S_drewN | apply Kd.S_drew));exact Kd.S_mono (Kd.S_far (p:=⟨b2,1,none⟩) (Kd.S_mono d3.out (fun k_ hk=>(⟨hk,hk.1.2⟩:_ ∧ k_ ≠ b2))) (fun _ hk=>hk.2) (.slice h2 e3.length h3)) (fun _ hk=>⟨hk.1.1.1,⟨hk.1.2,hk.1.1.2⟩⟩)⟩,⟨by (with_reducible repeat (first | apply Kd.R_alloc | apply Kd.R_drewN | apply Kd.R_drew));exact Kd.R_mono (Kd.R_far (p:=⟨b2,1,none⟩) (Kd.R_types e9.out b1.out (by decide)) (fun _ hk=>hk.2) (.slice h2 e3.length h3)) (fun _ hk=>hk.1)⟩,⟨by (with_reducible repeat (first | refine blk_drewN ?_ _ | refine blk_drew ?_ | refine blk_alloc ?_ _));refine blk_put (cs:=#[.int .i64 (wrap64 (1 + b3)),b4]) ?_ 1 _ rfl;(with_reducible repeat (first | refine blk_drewN ?_ _ | refine blk_drew ?_ | refine blk_alloc ?_ _));exact b1.out⟩,⟨bl HB⟩⟩
end Go.Proofs.Ytjohcjfmlhihbaa.G
set_option linter.unusedSectionVars false
namespace Go.Proofs.Ytjohcjfmlhihbaa.P
open Go Go.RowKit Go.Proofs.Ytjohcjfmlhihbaa.G
open Go.Proofs.YtjohcjfmlhihbaaW.PrintWords Go.Proofs.YtjohcjfmlhihbaaW.PrintMore
theorem pick_some (l:List Int) (a:Nat) (ha:a < 1000000) {n:Int} (h0:0 < n) (h1:n ≤ 9223372036854775807):∃ m,0 ≤ m ∧ m < n ∧ numnahlaw07_pick.f l (a:Int) n = some m:=by
 unfold numnahlaw07_pick.f
 by_cases h:(a:Int) ≥ (l.length:Int)
 ·rw [if_pos h,if_neg (by omega),wrap_id (by omega) (by omega),Int.tmod_eq_emod_of_nonneg (by omega)]
  exact ⟨_,Int.emod_nonneg _ (by omega),Int.emod_lt_of_pos _ h0,rfl⟩
 ·obtain ⟨m,m0,m1,e⟩:=mod_some (rd l (a:Int)) h0 h1
  rw [if_neg h,if_pos (by omega),if_pos (by omega),e]
  exact ⟨m,m0,m1,rfl⟩
theorem wrap_pl {c n i:Nat} (hc:c ≤ 10) (hn:n ≤ 10) (hi:i ≤ 1000):wrap64 (wrap64 ((c:Int) + (n:Int)) + wrap64 (2 * (i:Int))) = ((c + n + 2 * i:Nat):Int):=by
 have h1:wrap64 ((c:Int) + (n:Int)) = (c:Int) + (n:Int):=wrap_id (by omega) (by omega)
 have h2:wrap64 (2 * (i:Int)) = 2 * (i:Int):=wrap_id (by omega) (by omega)
 rw [h1,h2]
 clear h1 h2
 rw [wrap_id (by omega) (by omega)]
 omega
theorem wrap_one {a:Int} (h0:0 ≤ a) (h1:a ≤ 1000):wrap64 (1 + a) = 1 + a:=wrap_id (by omega) (by omega)
def bitB (s:Int) (j:Nat):Bool:=decide (Int.tmod (shr .i64 s (j:Int)) 2 = 1)
def bits (s:Int) (i:Nat):List Nat:=(List.range i).filter (bitB s)
theorem bits_succ (s:Int) (i:Nat):bits s (i + 1) = if bitB s i = true then bits s i ++ [i] else bits s i:=by
 unfold bits
 rw [List.range_succ,List.filter_append]
 by_cases h:bitB s i = true
 ·rw [if_pos h,List.filter_cons_of_pos h];rfl
 ·rw [if_neg h,List.filter_cons_of_neg h];simp
theorem bits_some:∀ (n:Fin 6) (s:Fin 32),1 ≤ s.val → s.val < 2 ^ n.val → bits (s.val:Int) n.val ≠ []:=by decide +kernel
theorem bits_len (s:Int) (i:Nat):(bits s i).length ≤ i:=by
 have:=List.length_filter_le (bitB s) (List.range i)
 rwa [List.length_range] at this
theorem bits_ok {s:Int} {n:Nat}:allF (okAt n ((bits s n).map Int.ofNat)) ((bits s n).map Int.ofNat).length 0 = true:=by
 rw [allF_iff]
 intro j _ hj
 have hjl:j < (bits s n).length:=by rw [List.length_map] at hj;omega
 have hg:∀ i (h:i < (bits s n).length),rd ((bits s n).map Int.ofNat) (i:Int) = ((bits s n)[i]:Int):=fun i h=>by
  rw [rd_get (by rw [List.length_map];exact h),List.getElem_map];rfl
 unfold okAt
 simp only [Bool.and_eq_true,Bool.or_eq_true,decide_eq_true_eq]
 have hm:(bits s n)[j] ∈ bits s n:=List.getElem_mem _
 have hr:=List.mem_range.1 (List.mem_filter.1 (show (bits s n)[j] ∈ (List.range n).filter (bitB s) from hm)).1
 rw [hg j hjl]
 refine ⟨⟨by omega,by omega⟩,?_⟩
 by_cases e:j = 0
 ·exact .inl e
 ·right
  have hp:(bits s n).Pairwise (· < ·):=List.Pairwise.filter _ List.pairwise_lt_range
  have:=List.pairwise_iff_getElem.1 hp (j - 1) j (by omega) hjl (by omega)
  rw [hg (j - 1) (by omega)]
  omega
theorem bits_any {n s:Nat} (hn:n ≤ 5) (h1:1 ≤ s) (h2:s < 2 ^ n):bits (s:Int) n ≠ []:=by
 have h3:s < 32:=Nat.lt_of_lt_of_le h2 (Nat.le_trans (Nat.pow_le_pow_right (by decide) hn) (by decide))
 exact bits_some ⟨n,by omega⟩ ⟨s,h3⟩ h1 h2
theorem shl_P {n:Nat} (h:1 ≤ n ∧ n ≤ 5):∃ P:Nat,2 ^ n = P ∧ 2 ≤ P ∧ P ≤ 32 ∧ wrap64 (shl .i64 1 (n:Int) - 1) = (P:Int) - 1:=by
 rcases (by omega:n = 1 ∨ n = 2 ∨ n = 3 ∨ n = 4 ∨ n = 5) with rfl | rfl | rfl | rfl | rfl
 ·exact ⟨2,by decide,by decide,by decide,by decide +kernel⟩
 ·exact ⟨4,by decide,by decide,by decide,by decide +kernel⟩
 ·exact ⟨8,by decide,by decide,by decide,by decide +kernel⟩
 ·exact ⟨16,by decide,by decide,by decide,by decide +kernel⟩
 ·exact ⟨32,by decide,by decide,by decide,by decide +kernel⟩
section
variable {l:List Int} {n m:Nat} (hn:1 ≤ n ∧ n ≤ 5) (hm:1 ≤ m ∧ m ≤ 6)
include hn hm
structure PlU (n:Nat) (u:List S45):Prop where
 wt:∀ a ∈ u,1 ≤ a.f0 ∧ a.f0 ≤ 4
 pipes:∀ a ∈ u,∃ s:Int,a.f1 = (bits s n).map Int.ofNat ∧ bits s n ≠ []
theorem plant_l2 {pp:List Int} {u:List S45} {iu:Nat} {s w:Int} (hu:u.length ≤ 6) {v:List Int × List S45} (hv:Ev (fun k=>numnahlaw07_plant.l1 k l (n:Int) (m:Int) pp (u ++ [⟨w,(bits s n).map Int.ofNat⟩]) ((iu + 1:Nat):Int)) v) (hiu:iu < 1000):∀ d i,i + d = n → Ev (fun k=>numnahlaw07_plant.l2 k l (n:Int) (m:Int) pp u (iu:Int) s (i:Int) w ((bits s i).map Int.ofNat)) v:=by
 intro d
 induction d with
 | zero =>
  intro i hi
  obtain rfl:i = n:=by omega
  refine Ev.step (fun k=>?_) hv
  rw [numnahlaw07_plant.l2,if_neg (by omega),if_pos (by omega),wrap_succ (by omega)]
 | succ d ih =>
  intro i hi
  have hnx:=ih (i + 1) (by omega)
  rw [bits_succ] at hnx
  by_cases hb:bitB s i = true
  ·rw [if_pos hb,List.map_append] at hnx
   refine Ev.step (fun k=>?_) hnx
   rw [numnahlaw07_plant.l2,if_pos (by omega),if_pos (by omega),if_pos (of_decide_eq_true hb),if_pos (by rw [List.length_map];have:=bits_len s i;omega),wrap_succ (by omega)];rfl
  ·rw [if_neg hb] at hnx
   refine Ev.step (fun k=>?_) hnx
   rw [numnahlaw07_plant.l2,if_pos (by omega),if_pos (by omega),if_neg (fun h=>hb (decide_eq_true h)),wrap_succ (by omega)]
theorem plant_l1 {pp:List Int}:∀ d i (u:List S45),i + d = m → u.length = i → PlU n u → ∃ u',u'.length = m ∧ PlU n u' ∧ Ev (fun k=>numnahlaw07_plant.l1 k l (n:Int) (m:Int) pp u (i:Int)) (pp,u'):=by
 intro d
 induction d with
 | zero =>
  intro i u hi hu hP
  refine ⟨u,by omega,hP,Ev.step (f:=fun _=>some (pp,u)) (fun k=>?_) (Ev.now _)⟩
  rw [numnahlaw07_plant.l1,if_neg (by omega)]
 | succ d ih =>
  intro i u hi hu hP
  obtain ⟨a,a0,a1,ha⟩:=pick_some l (2 + n + 2 * i) (by omega) (n:=4) (by decide) (by decide)
  have e4:Unit → wrap64 (1 + a) = 1 + a:=fun _=>wrap_one a0 (by omega)
  have e1:=fun _:Unit=>wrap_pl (c:=2) (n:=n) (i:=i) (by decide) (by omega) (by omega)
  have e2:=fun _:Unit=>wrap_pl (c:=3) (n:=n) (i:=i) (by decide) (by omega) (by omega)
  obtain ⟨P2,hP2,s2,s3,s1⟩:=shl_P hn
  replace s1:=fun _:Unit=>s1
  obtain ⟨b,b0,b1,hb⟩:=pick_some l (3 + n + 2 * i) (by omega) (n:=(P2:Int) - 1) (by omega) (by omega)
  have hs:bits (1 + b) n ≠ []:=by
   obtain ⟨s,hs⟩:∃ s:Nat,1 + b = (s:Int):=⟨(1 + b).toNat,by omega⟩
   rw [hs]
   exact bits_any hn.2 (by omega) (by rw [hP2];omega)
  obtain ⟨u',h1,h2,h3⟩:=ih (i + 1) (u ++ [⟨1 + a,(bits (1 + b) n).map Int.ofNat⟩]) (by omega) (by rw [List.length_append,hu];rfl) ⟨fun c hc=>by
   rcases List.mem_append.1 hc with hc | hc
   ·exact hP.wt c hc
   ·rw [List.mem_singleton.1 hc];exact ⟨by simp only;omega,by simp only;omega⟩,fun c hc=>by
   rcases List.mem_append.1 hc with hc | hc
   ·exact hP.pipes c hc
   ·rw [List.mem_singleton.1 hc];exact ⟨1 + b,rfl,hs⟩⟩
  refine ⟨u',h1,h2,?_⟩
  have b2:0 ≤ b ∧ b ≤ 1000:=by omega
  have e3:Unit → wrap64 (1 + b) = 1 + b:=fun _=>wrap_one b2.1 b2.2
  have h4:=plant_l2 hn hm (l:=l) (pp:=pp) (u:=u) (iu:=i) (s:=1 + b) (w:=1 + a) (by omega) h3 (by omega) n 0 (by omega)
  have hb0:(bits (1 + b) 0).map Int.ofNat = []:=rfl
  have hz:((0:Nat):Int) = 0:=rfl
  rw [hb0,hz] at h4
  refine Ev.step (fun k=>?_) h4
  rw [numnahlaw07_plant.l1,if_pos (by omega)]
  have f1:wrap64 (wrap64 (2 + (n:Int)) + wrap64 (2 * (i:Int))) = ((2 + n + 2 * i:Nat):Int):=e1 ()
  have f2:wrap64 (wrap64 (3 + (n:Int)) + wrap64 (2 * (i:Int))) = ((3 + n + 2 * i:Nat):Int):=e2 ()
  have f0:0 ≤ (n:Int):=Int.natCast_nonneg _
  rw [f1,ha,Option.bind_some,if_pos f0,f2,s1 (),hb,Option.bind_some,e3 (),e4 ()]
theorem plant_l0:∀ d i (pp:List Int),i + d = n → pp.length = i → (∀ x ∈ pp,0 ≤ x ∧ x ≤ 200) → ∃ p u,p.length = n ∧ (∀ x ∈ p,0 ≤ x ∧ x ≤ 200) ∧ u.length = m ∧ PlU n u ∧ Ev (fun k=>numnahlaw07_plant.l0 k l (n:Int) (m:Int) pp (i:Int)) (p,u):=by
 intro d
 induction d with
 | zero =>
  intro i pp hi hp hb
  obtain ⟨u,h1,h2,h3⟩:=plant_l1 hn hm (l:=l) (pp:=pp) m 0 [] (by omega) rfl ⟨fun a ha=>(by cases ha),fun a ha=>(by cases ha)⟩
  refine ⟨pp,u,by omega,hb,h1,h2,Ev.step (fun k=>?_) h3⟩
  rw [numnahlaw07_plant.l0,if_neg (by omega)];rfl
 | succ d ih =>
  intro i pp hi hp hb
  obtain ⟨a,a0,a1,ha⟩:=pick_some l (2 + i) (by omega) (n:=201) (by decide) (by decide)
  obtain ⟨p,u,h1,h2,h3,h4,h5⟩:=ih (i + 1) (pp ++ [a]) (by omega) (by rw [List.length_append,hp];rfl) (fun x hx=>by
   rcases List.mem_append.1 hx with hx | hx
   ·exact hb x hx
   ·rw [List.mem_singleton.1 hx];omega)
  refine ⟨p,u,h1,h2,h3,h4,Ev.step (fun k=>?_) h5⟩
  have e1:wrap64 (2 + (i:Int)) = ((2 + i:Nat):Int):=by rw [wrap_id (by omega) (by omega)];omega
  rw [numnahlaw07_plant.l0,if_pos (by omega),e1,ha]
  simp only [Option.bind_some]
  rw [if_pos (by omega),wrap_succ (by omega)]
end
theorem plU_ok {p:List Int} {u:List S45} (hp1:1 ≤ p.length) (hp5:p.length ≤ 5) (hp:∀ x ∈ p,0 ≤ x ∧ x ≤ 200) (hu1:1 ≤ u.length) (hu6:u.length ≤ 6) (hP:PlU p.length u):okNet p u = true:=by
 unfold okNet
 simp only [Bool.and_eq_true,decide_eq_true_eq,List.all_eq_true,allF_iff]
 refine ⟨⟨⟨⟨⟨hp1,hp5⟩,hu1⟩,hu6⟩,hp⟩,fun i _ hi=>?_⟩
 rw [rdT45 (by omega)]
 have hmem:u[i]'(by omega) ∈ u:=List.getElem_mem _
 have hw:=hP.wt _ hmem
 obtain ⟨s,hs,hne⟩:=hP.pipes _ hmem
 unfold okU
 simp only [Bool.and_eq_true,decide_eq_true_eq]
 rw [hs]
 refine ⟨⟨hw,?_⟩,bits_ok⟩
 rw [List.length_map]
 exact List.length_pos_iff.2 hne
theorem ev_plant (l:List Int):∃ p u,okNet p u = true ∧ (∀ a ∈ u,a.f1.length ≤ 1000000) ∧ Ev (fun k=>numnahlaw07_plant.f k l) (p,u):=by
 obtain ⟨a,a0,a1,ha⟩:=pick_some l 0 (by omega) (n:=5) (by decide) (by decide)
 obtain ⟨b,b0,b1,hb⟩:=pick_some l 1 (by omega) (n:=6) (by decide) (by decide)
 have e1:wrap64 (1 + a) = (((1 + a).toNat:Nat):Int):=by rw [wrap_id (by omega) (by omega)];omega
 have e2:wrap64 (1 + b) = (((1 + b).toNat:Nat):Int):=by rw [wrap_id (by omega) (by omega)];omega
 obtain ⟨p,u,h1,h2,h3,h4,h5⟩:=plant_l0 (l:=l) (n:=(1 + a).toNat) (m:=(1 + b).toNat) (by omega) (by omega) (1 + a).toNat 0 [] (by omega) rfl (fun x hx=>by cases hx)
 have hok:okNet p u = true:=plU_ok (by omega) (by omega) h2 (by omega) (by omega) (by rw [h1];exact h4)
 refine ⟨p,u,hok,fun c hc=>?_,?_⟩
 ·obtain ⟨i,hi,rfl⟩:=List.getElem_of_mem hc
  have:=(isN hok).len i hi
  omega
 ·unfold numnahlaw07_plant.f
  have ha':numnahlaw07_pick.f l 0 5 = some a:=ha
  have hb':numnahlaw07_pick.f l 1 6 = some b:=hb
  rw [ha',hb']
  simp only [Option.bind_some]
  rw [e1,e2]
  exact h5
end Go.Proofs.Ytjohcjfmlhihbaa.P
set_option linter.unusedSectionVars false
namespace Go.Proofs.Ytjohcjfmlhihbaa.P
open Go Go.RowKit Go.Proofs.Ytjohcjfmlhihbaa.G
open Go.Proofs.YtjohcjfmlhihbaaW.PrintWords Go.Proofs.YtjohcjfmlhihbaaW.PrintMore
def smallS (a:S23):Prop:=1 ≤ a.f1 ∧ a.f1 ≤ 20 ∧ -1000000 ≤ a.f0 ∧ a.f0 ≤ 1000000 ∧ Nat.gcd a.f0.natAbs a.f1.toNat = 1
instance (a:S23):Decidable (smallS a):=by unfold smallS;exact inferInstance
theorem abs_of {q:Rat} {A:Nat} (h:q.num.natAbs ≤ A):-(A:Rat) ≤ q ∧ q ≤ (A:Rat):=by
 have hp:=den_pos q
 have h2:A ≤ A * q.den:=Nat.le_mul_of_pos_right _ hp
 have e:((A * q.den:Nat):Int) = (A:Int) * (q.den:Int):=by push_cast;rfl
 constructor
 ·rw [Rat.le_iff]
  simp only [Rat.neg_num,Rat.num_natCast,Rat.neg_den,Rat.den_natCast]
  rw [Int.neg_mul]
  omega
 ·rw [Rat.le_iff]
  simp only [Rat.num_natCast,Rat.den_natCast]
  omega
end Go.Proofs.Ytjohcjfmlhihbaa.P
namespace Go.Proofs.Ytjohcjfmlhihbaa.G
open Go.RowKit Go.Proofs.YtjohcjfmlhihbaaW.PrintWords Go.Proofs.YtjohcjfmlhihbaaW.PrintLast Go.Proofs.YtjohcjfmlhihbaaW.PrintMore
set_option maxHeartbeats 8000000
set_option maxRecDepth 100000
attribute [local go_sem] cond_true cond_false fld23_0 fld23_1 fld45_0 fld45_1 fld109_0 fld109_1 fld94_0 fld94_1 max2_int min2_int max_two min_two max_three min_three max_four min_four   -- for this text's walks alone
def shares_net_areRates_1.f (k:Nat) (b1:Int) (b2:Int):Option (Bool):=(shares_within.f b1 0 1000000).bind fun b7=>(if b7 = true then ((shares_within.f b2 1 100).bind fun b5=>(if b5 = true then ((shares_isValid.f k b1 b2).bind fun b4=>(some (!b4))) else (some true))) else (some true))
theorem shares_net_areRates_1.mono:∀ a0 a1 k,LeO (shares_net_areRates_1.f k a0 a1) (shares_net_areRates_1.f (k + 1) a0 a1):=by
 intro a0 a1 k
 unfold shares_net_areRates_1.f
 repeat' first
   | (with_reducible exact shares_isValid.mono _ _ _)
   | (with_reducible exact LeO.refl _)
   | (with_reducible exact LeO.none _)
   | (with_reducible refine LeO.ite ?_ ?_)
   | (with_reducible refine LeO.bind ?_ (fun _=>?_))
   | exact shares_isValid.mono _ _ _
   | exact LeO.none _
   | refine LeO.ite ?_ ?_
   | refine LeO.bind ?_ (fun _=>?_)
theorem shares_net_areRates_1.calls (k:Nat) (b1:Int) (b2:Int) (r:Bool) (w:World) (h:shares_net_areRates_1.f k b1 b2 = some r) :
  Calls Try.prog 118 #[.agg #[.int .i64 b1,.int .i64 b2]] w fun e w'=>e = .returned (.bool r) ∧ Below w.heap.size w w':=by
 have e8:=Try.underlying23
 have HB:=Aside0.mk (Below.refl w.heap.size w)
 have H:((shares_within.f b1 0 1000000).bind fun b7=>(if b7 = true then ((shares_within.f b2 1 100).bind fun b5=>(if b5 = true then ((shares_isValid.f k b1 b2).bind fun b4=>(some (!b4))) else (some true))) else (some true))) = some r:=h
 clear h
 replace H:=Option.bind_eq_some_iff.mp H
 obtain ⟨b7,e3,H⟩:=H
 replace H:(if b7 = true then ((shares_within.f b2 1 100).bind fun b5=>(if b5 = true then ((shares_isValid.f k b1 b2).bind fun b4=>(some (!b4))) else (some true))) else (some true)) = some r:=H
 have A2:=Aside0.mk e3
 clear e3
 by_cases c3:b7 = true
 case neg =>
  replace c3:=Bool.eq_false_iff.mpr c3
  subst c3
  have H1:(some true) = some r:=by rw [if_neg (show ¬ (false = true) by decide)] at H;exact H
  clear H
  have H:=H1
  clear H1
  obtain rfl:=Option.some.inj H
  go_enter Try.func118,Try.ntmps118
  go_wp2_with (first | ((with_reducible refine gate_dst (N:=1) rfl ?_);refine box_event ?hg (N:=1) ?hd (cs:=#[.int .i64 b1,.int .i64 b2]) (t:=23) ?hr ?_;(case hd=>rfl);(case hg=>rfl);(case hr=>first | (go_simp;done) | (go_simp;rfl));intro b3 hg e4 hbox hb;have b8:=Aside0.mk (below_step (by repeat (first | (with_reducible first | exact HB.out | apply below_alloc | apply pw_below_drewN | apply below_drew1) | exact HB.out)) hb);have b9:=Aside0.mk (hbox);have c0:=Aside0.mk ((by rw [hg];exact (below_size (by repeat (first | (with_reducible first | exact HB.out | apply below_alloc | apply pw_below_drewN | apply below_drew1) | exact HB.out))):w.heap.size ≤ b3));have c1:=Aside0.mk ((by rw [hg];exact (below_size (by repeat (first | (with_reducible first | exact HB.out | apply below_alloc | apply pw_below_drewN | apply below_drew1) | exact HB.out))):w.heap.size ≤ b3));clear HB;have HB:=b8;have b0:=b9;have d0:=c0;have b6:=c1;clear b8 b9 c0 c1;clear hb hbox hg;have d1:e4.cell? ⟨b3,0,none⟩ = some (.int .i64 b1):=(blk_cell b0.out 0).trans rfl;have d2:e4.cell? ⟨b3,1,none⟩ = some (.int .i64 b2):=(blk_cell b0.out 1).trans rfl;have d3:=blk_frozen b0.out 0;have d4:=blk_frozen b0.out 1) | ((with_reducible refine gate_callee (f:=92) rfl ?_);refine goesL_ (some 5) rfl rfl Try.func92 (by kernel_rfl) rfl #[.int .i64 b1,.int .i64 0,.int .i64 1000000] rfl (by (try simp only [List.map_toArray,List.map_cons,List.map_nil]);first | done | rfl | (simp only [List.length_drop,List.length_take];rfl)) ?_;(with_reducible refine (shares_within.calls b1 0 1000000 false _ A2.out).mono ?_);rintro e w' ⟨rfl,⟨nd,rfl⟩⟩;refine ⟨_,rfl,?_⟩))
  go_ret
  exact ⟨by first | rfl | (simp [errW_none,errW_some] <;> rfl) | (simp [*,errW_none,errW_some] <;> rfl),by repeat (first | (with_reducible first | exact HB.out | apply below_alloc | apply pw_below_drewN | apply below_drew1 | refine below_set ?_ b6.out) | exact HB.out)⟩
 subst c3
 have H1:((shares_within.f b2 1 100).bind fun b5=>(if b5 = true then ((shares_isValid.f k b1 b2).bind fun b4=>(some (!b4))) else (some true))) = some r:=by rw [if_pos rfl] at H;exact H
 clear H
 have H:=H1
 clear H1
 replace H:=Option.bind_eq_some_iff.mp H
 obtain ⟨b5,e5,H⟩:=H
 replace H:(if b5 = true then ((shares_isValid.f k b1 b2).bind fun b4=>(some (!b4))) else (some true)) = some r:=H
 have A4:=Aside0.mk e5
 clear e5
 by_cases c5:b5 = true
 case neg =>
  replace c5:=Bool.eq_false_iff.mpr c5
  subst c5
  have H1:(some true) = some r:=by rw [if_neg (show ¬ (false = true) by decide)] at H;exact H
  clear H
  have H:=H1
  clear H1
  obtain rfl:=Option.some.inj H
  go_enter Try.func118,Try.ntmps118
  go_wp2_with (first | ((with_reducible refine gate_dst (N:=1) rfl ?_);refine box_event ?hg (N:=1) ?hd (cs:=#[.int .i64 b1,.int .i64 b2]) (t:=23) ?hr ?_;(case hd=>rfl);(case hg=>rfl);(case hr=>first | (go_simp;done) | (go_simp;rfl));intro b3 hg e6 hbox hb;have b8:=Aside0.mk (below_step (by repeat (first | (with_reducible first | exact HB.out | apply below_alloc | apply pw_below_drewN | apply below_drew1) | exact HB.out)) hb);have b9:=Aside0.mk (hbox);have c0:=Aside0.mk ((by rw [hg];exact (below_size (by repeat (first | (with_reducible first | exact HB.out | apply below_alloc | apply pw_below_drewN | apply below_drew1) | exact HB.out))):w.heap.size ≤ b3));have c1:=Aside0.mk ((by rw [hg];exact (below_size (by repeat (first | (with_reducible first | exact HB.out | apply below_alloc | apply pw_below_drewN | apply below_drew1) | exact HB.out))):w.heap.size ≤ b3));clear HB;have HB:=b8;have b0:=b9;have d0:=c0;have b6:=c1;clear b8 b9 c0 c1;clear hb hbox hg;have d5:e6.cell? ⟨b3,0,none⟩ = some (.int .i64 b1):=(blk_cell b0.out 0).trans rfl;have d6:e6.cell? ⟨b3,1,none⟩ = some (.int .i64 b2):=(blk_cell b0.out 1).trans rfl;have d7:=blk_frozen b0.out 0;have d8:=blk_frozen b0.out 1) | ((with_reducible refine gate_callee (f:=92) rfl ?_);refine goesL_ (some 5) rfl rfl Try.func92 (by kernel_rfl) rfl #[.int .i64 b1,.int .i64 0,.int .i64 1000000] rfl (by (try simp only [List.map_toArray,List.map_cons,List.map_nil]);first | done | rfl | (simp only [List.length_drop,List.length_take];rfl)) ?_;(with_reducible refine (shares_within.calls b1 0 1000000 true _ A2.out).mono ?_);rintro e w' ⟨rfl,⟨nd,rfl⟩⟩;refine ⟨_,rfl,?_⟩) | (go_at_call 92;(with_reducible refine (shares_within.calls b2 1 100 false _ A4.out).mono ?_);rintro e w' ⟨rfl,⟨nd,rfl⟩⟩))
  go_ret
  exact ⟨by first | rfl | (simp [errW_none,errW_some] <;> rfl) | (simp [*,errW_none,errW_some] <;> rfl),by repeat (first | (with_reducible first | exact HB.out | apply below_alloc | apply pw_below_drewN | apply below_drew1 | refine below_set ?_ b6.out) | exact HB.out)⟩
 subst c5
 have H1:((shares_isValid.f k b1 b2).bind fun b4=>(some (!b4))) = some r:=by rw [if_pos rfl] at H;exact H
 clear H
 have H:=H1
 clear H1
 replace H:=Option.bind_eq_some_iff.mp H
 obtain ⟨b4,e7,H⟩:=H
 replace H:(some (!b4)) = some r:=H
 have A6:=Aside0.mk e7
 clear e7
 obtain rfl:=Option.some.inj H
 go_enter Try.func118,Try.ntmps118
 go_wp2_with (first | ((with_reducible refine gate_dst (N:=1) rfl ?_);refine box_event ?hg (N:=1) ?hd (cs:=#[.int .i64 b1,.int .i64 b2]) (t:=23) ?hr ?_;(case hd=>rfl);(case hg=>rfl);(case hr=>first | (go_simp;done) | (go_simp;rfl));intro b3 hg w7 hbox hb;have b8:=Aside0.mk (below_step (by repeat (first | (with_reducible first | exact HB.out | apply below_alloc | apply pw_below_drewN | apply below_drew1) | exact HB.out)) hb);have b9:=Aside0.mk (hbox);have c0:=Aside0.mk ((by rw [hg];exact (below_size (by repeat (first | (with_reducible first | exact HB.out | apply below_alloc | apply pw_below_drewN | apply below_drew1) | exact HB.out))):w.heap.size ≤ b3));have c1:=Aside0.mk ((by rw [hg];exact (below_size (by repeat (first | (with_reducible first | exact HB.out | apply below_alloc | apply pw_below_drewN | apply below_drew1) | exact HB.out))):w.heap.size ≤ b3));clear HB;have HB:=b8;have b0:=b9;have d0:=c0;have b6:=c1;clear b8 b9 c0 c1;clear hb hbox hg;have d9:w7.cell? ⟨b3,0,none⟩ = some (.int .i64 b1):=(blk_cell b0.out 0).trans rfl;have e0:w7.cell? ⟨b3,1,none⟩ = some (.int .i64 b2):=(blk_cell b0.out 1).trans rfl;have e1:=blk_frozen b0.out 0;have e2:=blk_frozen b0.out 1) | ((with_reducible refine gate_callee (f:=92) rfl ?_);refine goesL_ (some 5) rfl rfl Try.func92 (by kernel_rfl) rfl #[.int .i64 b1,.int .i64 0,.int .i64 1000000] rfl (by (try simp only [List.map_toArray,List.map_cons,List.map_nil]);first | done | rfl | (simp only [List.length_drop,List.length_take];rfl)) ?_;(with_reducible refine (shares_within.calls b1 0 1000000 true _ A2.out).mono ?_);rintro e w' ⟨rfl,⟨nd,rfl⟩⟩;refine ⟨_,rfl,?_⟩) | (go_at_call 92;(with_reducible refine (shares_within.calls b2 1 100 true _ A4.out).mono ?_);rintro e w' ⟨rfl,⟨nd,rfl⟩⟩) | (go_at_call 112;(with_reducible refine (shares_isValid.calls k b1 b2 b4 _ A6.out).mono ?_);rintro e w9 ⟨rfl,hb⟩;have b8:=Aside0.mk (blk_below (g:=b3) (o:=.cells #[.int .i64 b1,.int .i64 b2] 23 (0,0)) (by (with_reducible repeat (first | refine blk_drewN ?_ _ | refine blk_drew ?_ | refine blk_alloc ?_ _));exact b0.out) hb);have b9:=Aside0.mk (below_step (by repeat (first | (with_reducible first | exact HB.out | apply below_alloc | apply pw_below_drewN | apply below_drew1 | refine below_set ?_ b6.out) | exact HB.out)) hb);clear b0;clear HB;have b0:=b8;have HB:=b9;clear b8 b9;(try clear hb)))
 go_ret
 exact ⟨by first | rfl | (simp [errW_none,errW_some] <;> rfl) | (simp [*,errW_none,errW_some] <;> rfl),by repeat (first | (with_reducible first | exact HB.out | apply below_alloc | apply pw_below_drewN | apply below_drew1 | refine below_set ?_ b6.out) | exact HB.out)⟩
end Go.Proofs.Ytjohcjfmlhihbaa.G
namespace Go.Proofs.Ytjohcjfmlhihbaa.G
open Go.RowKit Go.Proofs.YtjohcjfmlhihbaaW.PrintWords Go.Proofs.YtjohcjfmlhihbaaW.PrintLast Go.Proofs.YtjohcjfmlhihbaaW.PrintMore
attribute [local go_sem] fld23_0 fld23_1 fld45_0 fld45_1 fld109_0 fld109_1 fld94_0 fld94_1 max2_int min2_int max_two min_two max_three min_three max_four min_four   -- for this text's walks alone
set_option linter.unusedVariables false
set_option linter.unusedSimpArgs false
theorem eqA51 (d:Nat) (w:World) (x0 y0:Int) (x1 y1:Int) :
  (Op.equalIn (d + 2) 51 (.agg #[.int .i64 x0,.int .i64 x1]) (.agg #[.int .i64 y0,.int .i64 y1])).run Try.prog w = .ok (x0 == y0 && (x1 == y1)) w :=
 ArrEq.eqArr2 w d Try.underlying51 Try.underlying3 (by kernel_rfl) (by kernel_rfl) x0 y0 x1 y1
end Go.Proofs.Ytjohcjfmlhihbaa.G
namespace Go.Proofs.Ytjohcjfmlhihbaa.G
open Go.RowKit Go.Proofs.YtjohcjfmlhihbaaW.PrintWords Go.Proofs.YtjohcjfmlhihbaaW.PrintLast Go.Proofs.YtjohcjfmlhihbaaW.PrintMore
set_option maxHeartbeats 8000000
set_option maxRecDepth 100000
attribute [local go_sem] cond_true cond_false fld23_0 fld23_1 fld45_0 fld45_1 fld109_0 fld109_1 fld94_0 fld94_1 max2_int min2_int max_two min_two max_three min_three max_four min_four   -- for this text's walks alone
attribute [local go_sem high] eqA51
def index118.l0:Nat → List (S23) → Int → Int → Option (Int)
 | 0,_,_,_=>none
 | k + 1,x0,x7,x8=>if x8 < x7 then (if 0 ≤ x8 then (if x8 < (x0.length:Int) then ((shares_net_areRates_1.f k ((rd_T23 x0 x8).f0) ((rd_T23 x0 x8).f1)).bind fun b5=>(if b5 = true then (some x8) else (index118.l0 k x0 x7 (wrap64 (x8 + 1))))) else (none)) else (none)) else (some (-1))
def index118.f (k:Nat) (l0:List (S23)):Option (Int):=index118.l0 k l0 (l0.length:Int) 0
theorem index118.mono_l:∀ k,(∀ y0 y1 y2,LeO (index118.l0 k y0 y1 y2) (index118.l0 (k + 1) y0 y1 y2))
 | 0=>fun _ _ _ r h=>by simp [index118.l0] at h
 | k + 1=>by
  have b8:=index118.mono_l k
  intro y0 y1 y2
  unfold index118.l0
  repeat' first
  | (with_reducible exact b8 _ _ _)
  | (with_reducible exact shares_net_areRates_1.mono _ _ _)
  | (with_reducible exact LeO.refl _)
  | (with_reducible exact LeO.none _)
  | (with_reducible refine LeO.ite ?_ ?_)
  | (with_reducible refine LeO.bind ?_ (fun _=>?_))
  | exact b8 _ _ _
  | exact shares_net_areRates_1.mono _ _ _
  | exact LeO.none _
  | refine LeO.ite ?_ ?_
  | refine LeO.bind ?_ (fun _=>?_)
theorem index118.mono:∀ a0 k,LeO (index118.f k a0) (index118.f (k + 1) a0):=by
 intro a0 k
 have b8:=index118.mono_l k
 unfold index118.f
 repeat' first
   | (with_reducible exact b8 _ _ _)
   | (with_reducible exact shares_net_areRates_1.mono _ _ _)
   | (with_reducible exact LeO.refl _)
   | (with_reducible exact LeO.none _)
   | (with_reducible refine LeO.ite ?_ ?_)
   | (with_reducible refine LeO.bind ?_ (fun _=>?_))
   | exact b8 _ _ _
   | exact shares_net_areRates_1.mono _ _ _
   | exact LeO.none _
   | refine LeO.ite ?_ ?_
   | refine LeO.bind ?_ (fun _=>?_)
theorem index118.calls (k:Nat) (A0:Option Addr) (c0:Nat) (l0:List (S23)) (r:Int) (w:World) (d1:Kd.C k23 w A0 l0.length l0) (d2:l0.length ≤ c0) (h:index118.f k l0 = some r) :
  Calls Try.prog 126 #[.slice A0 l0.length c0,.func (.func 118) #[] #[]] w fun e w'=>e = .returned (.int .i64 r) ∧ Below w.heap.size w w':=by
 have d6:=Try.underlying23
 have d3:=Aside0.mk d1
 have d9:=Aside0.mk d2
 clear d1 d2
 have HB:=Aside0.mk (Below.refl w.heap.size w)
 have H:(index118.l0 k l0 (l0.length:Int) 0) = some r:=h
 clear h
 have H':=Aside0.mk H
 clear H
 go_enter Try.func126,Try.ntmps126
 go_wp2
 go_loopg [8] k (fun kq v8 w'=>∃ (b0:Int),v8 = .int .i64 b0 ∧ Aside0 (index118.l0 kq l0 (l0.length:Int) b0 = some r) ∧ Aside0 (kq ≤ k) ∧ Aside0 (Below w.heap.size w w'))
 case atStart=>exact ⟨(0),(by first | rfl | (simp;done) | (simp [*];done)),H',⟨Nat.le_refl _⟩,⟨by repeat (first | (with_reducible first | exact HB.out | apply below_alloc | apply pw_below_drewN | apply below_drew1) | exact HB.out)⟩⟩
 case round =>
  clear H'
  try clear c1
  obtain ⟨b0,rfl,HA,d4,HB⟩:=hrel
  cases gk with
  | zero=>exact absurd HA.out (by simp [index118.l0])
  | succ k1 =>
   have H:=HA.out
   clear HA
   simp only [index118.l0] at H
   by_cases c2:b0 < (l0.length:Int)
   case neg =>
    rw [if_neg c2] at H
    have d0:decide (b0 < (l0.length:Int)) = false:=decide_eq_false c2
    clear c2
    obtain rfl:=Option.some.inj H
    go_wp2
    go_ret
    exact ⟨by first | rfl | (simp [errW_none,errW_some] <;> rfl) | (simp [*,errW_none,errW_some] <;> rfl),by repeat (first | (with_reducible first | exact HB.out | apply below_alloc | apply pw_below_drewN | apply below_drew1) | exact HB.out)⟩
   rw [if_pos c2] at H
   have d0:decide (b0 < (l0.length:Int)) = true:=decide_eq_true c2
   clear c2
   by_cases c3:0 ≤ b0
   case neg =>
    rw [if_neg c3] at H
    exact absurd H (by simp)
   rw [if_pos c3] at H
   have d7:decide (0 ≤ b0) = true:=decide_eq_true c3
   clear c3
   by_cases c4:b0 < (l0.length:Int)
   case neg =>
    rw [if_neg c4] at H
    exact absurd H (by simp)
   rw [if_pos c4] at H
   have d8:decide (b0 < (l0.length:Int)) = true:=decide_eq_true c4
   clear c4
   replace H:=Option.bind_eq_some_iff.mp H
   obtain ⟨b5,d5,H⟩:=H
   replace H:(if b5 = true then (some b0) else (index118.l0 k1 l0 (l0.length:Int) (wrap64 (b0 + 1)))) = some r:=H
   have A5:=Aside0.mk d5
   clear d5
   by_cases c6:b5 = true
   ·subst c6
    have H1:(some b0) = some r:=by rw [if_pos rfl] at H;exact H
    clear H
    have H:=H1
    clear H1
    obtain rfl:=Option.some.inj H
    have b3:0 ≤ (b0:Int):=of_decide_eq_true (by first | (with_reducible assumption) | assumption)
    have b4:b0 < (l0.length:Int):=of_decide_eq_true (by first | (with_reducible assumption) | assumption)
    obtain ⟨b7,b6,b1,b2⟩:=at_T23 d3.out b0 b3 b4
    cases b6
    replace b1:=(HB.out.cell (World.block_lt_of_cell? w _ b1)).trans b1
    replace b2:=(HB.out.cell (World.block_lt_of_cell? w _ b2)).trans b2
    replace b3:=eq_true b3
    replace b4:=eq_true b4
    go_wp2_with (first | (go_at_call 118;(with_reducible refine (shares_net_areRates_1.calls k1 ((rd_T23 l0 b0).f0) ((rd_T23 l0 b0).f1) true _ A5.out).mono ?_);rintro e w7 ⟨rfl,hb⟩;have b9:=Aside0.mk (below_step (by repeat (first | (with_reducible first | exact HB.out | apply below_alloc | apply pw_below_drewN | apply below_drew1) | exact HB.out)) hb);clear HB;have HB:=b9;clear b9;(try clear hb)))
    go_ret
    exact ⟨by first | rfl | (simp [errW_none,errW_some] <;> rfl) | (simp [*,errW_none,errW_some] <;> rfl),by repeat (first | (with_reducible first | exact HB.out | apply below_alloc | apply pw_below_drewN | apply below_drew1) | exact HB.out)⟩
   replace c6:=Bool.eq_false_iff.mpr c6
   subst c6
   have H1:(index118.l0 k1 l0 (l0.length:Int) (wrap64 (b0 + 1))) = some r:=by rw [if_neg (show ¬ (false = true) by decide)] at H;exact H
   clear H
   have H:=H1
   clear H1
   have H':=Aside0.mk H
   clear H
   have b3:0 ≤ (b0:Int):=of_decide_eq_true (by first | (with_reducible assumption) | assumption)
   have b4:b0 < (l0.length:Int):=of_decide_eq_true (by first | (with_reducible assumption) | assumption)
   obtain ⟨b7,b6,b1,b2⟩:=at_T23 d3.out b0 b3 b4
   cases b6
   replace b1:=(HB.out.cell (World.block_lt_of_cell? w _ b1)).trans b1
   replace b2:=(HB.out.cell (World.block_lt_of_cell? w _ b2)).trans b2
   replace b3:=eq_true b3
   replace b4:=eq_true b4
   go_wp2_with (first | (go_at_call 118;(with_reducible refine (shares_net_areRates_1.calls k1 ((rd_T23 l0 b0).f0) ((rd_T23 l0 b0).f1) false _ A5.out).mono ?_);rintro e w8 ⟨rfl,hb⟩;have b9:=Aside0.mk (below_step (by repeat (first | (with_reducible first | exact HB.out | apply below_alloc | apply pw_below_drewN | apply below_drew1) | exact HB.out)) hb);clear HB;have HB:=b9;clear b9;(try clear hb)))
   go_roundg k1
   case measure=>have:=d4.out;omega
   case rel=>exact ⟨(wrap64 (b0 + 1)),(by first | rfl | (simp;done) | (simp [*];done)),H',⟨by have:=d4.out;omega⟩,⟨by repeat (first | (with_reducible first | exact HB.out | apply below_alloc | apply pw_below_drewN | apply below_drew1) | exact HB.out)⟩⟩
end Go.Proofs.Ytjohcjfmlhihbaa.G
namespace Go.Proofs.Ytjohcjfmlhihbaa.G
open Go.RowKit Go.Proofs.YtjohcjfmlhihbaaW.PrintWords Go.Proofs.YtjohcjfmlhihbaaW.PrintLast Go.Proofs.YtjohcjfmlhihbaaW.PrintMore
set_option maxHeartbeats 8000000
set_option maxRecDepth 100000
attribute [local go_sem] cond_true cond_false fld23_0 fld23_1 fld45_0 fld45_1 fld109_0 fld109_1 fld94_0 fld94_1 max2_int min2_int max_two min_two max_three min_three max_four min_four   -- for this text's walks alone
attribute [local go_sem high] eqA51
def contains118.f (k:Nat) (l0:List (S23)):Option (Bool):=(index118.f k l0).bind fun b0=>(some (decide (b0 ≥ 0)))
theorem contains118.mono:∀ a0 k,LeO (contains118.f k a0) (contains118.f (k + 1) a0):=by
 intro a0 k
 unfold contains118.f
 repeat' first
   | (with_reducible exact index118.mono _ _)
   | (with_reducible exact LeO.refl _)
   | (with_reducible exact LeO.none _)
   | (with_reducible refine LeO.ite ?_ ?_)
   | (with_reducible refine LeO.bind ?_ (fun _=>?_))
   | exact index118.mono _ _
   | exact LeO.none _
   | refine LeO.ite ?_ ?_
   | refine LeO.bind ?_ (fun _=>?_)
theorem contains118.calls (k:Nat) (A0:Option Addr) (c0:Nat) (l0:List (S23)) (r:Bool) (w:World) (b1:Kd.C k23 w A0 l0.length l0) (b2:l0.length ≤ c0) (h:contains118.f k l0 = some r) :
  Calls Try.prog 110 #[.slice A0 l0.length c0,.func (.func 118) #[] #[]] w fun e w'=>e = .returned (.bool r) ∧ Below w.heap.size w w':=by
 have b5:=Aside0.mk b1
 have b6:=Aside0.mk b2
 clear b1 b2
 have HB:=Aside0.mk (Below.refl w.heap.size w)
 have H:((index118.f k l0).bind fun b0=>(some (decide (b0 ≥ 0)))) = some r:=h
 clear h
 replace H:=Option.bind_eq_some_iff.mp H
 obtain ⟨b0,b3,H⟩:=H
 replace H:(some (decide (b0 ≥ 0))) = some r:=H
 have A2:=Aside0.mk b3
 clear b3
 obtain rfl:=Option.some.inj H
 go_enter Try.func110,Try.ntmps110
 go_wp2_with (first | ((with_reducible refine gate_callee (f:=126) rfl ?_);refine goesL_ (some 7) rfl rfl Try.func126 (by kernel_rfl) rfl #[.slice A0 l0.length c0,.func (.func 118) #[] #[]] rfl (by (try simp only [List.map_toArray,List.map_cons,List.map_nil]);first | done | rfl | (simp only [List.length_drop,List.length_take];rfl)) ?_;(with_reducible refine (index118.calls k _ _ l0 b0 _ ?side1 ?side2 A2.out).mono ?_);(case side1=>repeat (first | exact b5.out | (with_reducible refine Kd.C_alloc ?_ _) | (with_reducible refine Kd.C_drewN ?_ _) | (with_reducible refine Kd.C_drew ?_)));(case side2=>exact b6.out);rintro e w3 ⟨rfl,hb⟩;refine ⟨_,rfl,?_⟩;have b4:=Aside0.mk (below_step (by repeat (first | (with_reducible first | exact HB.out | apply below_alloc | apply pw_below_drewN | apply below_drew1) | exact HB.out)) hb);clear HB;have HB:=b4;clear b4;(try clear hb)))
 go_ret
 exact ⟨by first | rfl | (simp [errW_none,errW_some] <;> rfl) | (simp [*,errW_none,errW_some] <;> rfl),by repeat (first | (with_reducible first | exact HB.out | apply below_alloc | apply pw_below_drewN | apply below_drew1) | exact HB.out)⟩
end Go.Proofs.Ytjohcjfmlhihbaa.G
namespace Go.Proofs.Ytjohcjfmlhihbaa.G
open Go.RowKit Go.Proofs.YtjohcjfmlhihbaaW.PrintWords Go.Proofs.YtjohcjfmlhihbaaW.PrintLast Go.Proofs.YtjohcjfmlhihbaaW.PrintMore
set_option maxHeartbeats 8000000
set_option maxRecDepth 100000
attribute [local go_sem] cond_true cond_false fld23_0 fld23_1 fld45_0 fld45_1 fld109_0 fld109_1 fld94_0 fld94_1 max2_int min2_int max_two min_two max_three min_three max_four min_four   -- for this text's walks alone
attribute [local go_sem high] eqA51
def shares_net_areRates.f (k:Nat) (b3:List Int) (b2:List (S45)) (l1:List (S23)):Option (Bool):=if (l1.length:Int) = (b2.length:Int) then ((contains118.f k l1).bind fun b4=>(some (!b4))) else (some false)
theorem shares_net_areRates.mono:∀ a0 a1 a2 k,LeO (shares_net_areRates.f k a0 a1 a2) (shares_net_areRates.f (k + 1) a0 a1 a2):=by
 intro a0 a1 a2 k
 unfold shares_net_areRates.f
 repeat' first
   | (with_reducible exact contains118.mono _ _)
   | (with_reducible exact LeO.refl _)
   | (with_reducible exact LeO.none _)
   | (with_reducible refine LeO.ite ?_ ?_)
   | (with_reducible refine LeO.bind ?_ (fun _=>?_))
   | exact contains118.mono _ _
   | exact LeO.none _
   | refine LeO.ite ?_ ?_
   | refine LeO.bind ?_ (fun _=>?_)
theorem shares_net_areRates.calls (k:Nat) (b6:Option Addr) (b7:Nat) (b3:List Int) (b8:Option Addr) (b9:Nat) (b2:List (S45)) (A1:Option Addr) (c1:Nat) (l1:List (S23)) (r:Bool) (w:World) (c0:Kd.C (Kd.int .i64) w b6 b3.length b3) (d0:b3.length ≤ b7) (d1:Kd.C k45 w b8 b2.length b2) (d2:b2.length ≤ b9) (e9:Kd.C k23 w A1 l1.length l1) (h0:l1.length ≤ c1) (h:shares_net_areRates.f k b3 b2 l1 = some r) :
  Calls Try.prog 89 #[.agg #[.slice b6 b3.length b7,.slice b8 b2.length b9],.slice A1 l1.length c1] w fun e w'=>e = .returned (.bool r) ∧ Below w.heap.size w w':=by
 have h1:=Try.underlying109
 have h2:=Aside0.mk c0
 have h3:=Aside0.mk d0
 clear c0 d0
 have h4:=Aside0.mk d1
 have h5:=Aside0.mk d2
 clear d1 d2
 have h7:=Aside0.mk e9
 have h8:=Aside0.mk h0
 clear e9 h0
 have HB:=Aside0.mk (Below.refl w.heap.size w)
 have H:(if (l1.length:Int) = (b2.length:Int) then ((contains118.f k l1).bind fun b4=>(some (!b4))) else (some false)) = some r:=h
 clear h
 by_cases c3:(l1.length:Int) = (b2.length:Int)
 case neg =>
  rw [if_neg c3] at H
  have d8:((l1.length:Int) == (b2.length:Int)) = false:=beq_eq_false_iff_ne.mpr c3
  have d9:((l1.length:Int) != (b2.length:Int)) = true:=bne_iff_ne.mpr c3
  have e0:(l1.length == b2.length) = false:=by first | simpa using c3 | (simp at c3 ⊢;omega)
  obtain rfl:=Option.some.inj H
  go_enter Try.func89,Try.ntmps89
  go_wp2_with (first | ((with_reducible refine gate_dst (N:=2) rfl ?_);refine box_event ?hg (N:=2) ?hd (cs:=#[.slice b6 b3.length b7,.slice b8 b2.length b9]) (t:=109) ?hr ?_;(case hd=>rfl);(case hg=>rfl);(case hr=>first | (go_simp;done) | (go_simp;rfl));intro b1 hg w8 hbox hb;have d3:=Aside0.mk (below_step (by repeat (first | (with_reducible first | exact HB.out | apply below_alloc | apply pw_below_drewN | apply below_drew1) | exact HB.out)) hb);have d4:=Aside0.mk (hbox);have d6:=Aside0.mk ((by rw [hg];exact (below_size (by repeat (first | (with_reducible first | exact HB.out | apply below_alloc | apply pw_below_drewN | apply below_drew1) | exact HB.out))):w.heap.size ≤ b1));have d7:=Aside0.mk ((by rw [hg];exact (below_size (by repeat (first | (with_reducible first | exact HB.out | apply below_alloc | apply pw_below_drewN | apply below_drew1) | exact HB.out))):w.heap.size ≤ b1));clear HB;have HB:=d3;have b0:=d4;have d5:=d6;have b5:=d7;clear d3 d4 d6 d7;clear hb hbox hg;have e1:w8.cell? ⟨b1,0,none⟩ = some (.slice b6 b3.length b7):=(blk_cell b0.out 0).trans rfl;have e2:w8.cell? ⟨b1,1,none⟩ = some (.slice b8 b2.length b9):=(blk_cell b0.out 1).trans rfl;have e3:=blk_frozen b0.out 0;have e4:=blk_frozen b0.out 1))
  go_ret
  exact ⟨by first | rfl | (simp [errW_none,errW_some] <;> rfl) | (simp [*,errW_none,errW_some] <;> rfl),by repeat (first | (with_reducible first | exact HB.out | apply below_alloc | apply pw_below_drewN | apply below_drew1 | refine below_set ?_ b5.out) | exact HB.out)⟩
 rw [if_pos c3] at H
 have d8:((l1.length:Int) == (b2.length:Int)) = true:=beq_iff_eq.mpr c3
 have d9:((l1.length:Int) != (b2.length:Int)) = false:=bne_eq_false_iff_eq.mpr c3
 have e0:(l1.length == b2.length) = true:=by first | simpa using c3 | (simp at c3 ⊢;omega)
 clear c3
 replace H:=Option.bind_eq_some_iff.mp H
 obtain ⟨b4,h6,H⟩:=H
 replace H:(some (!b4)) = some r:=H
 have A4:=Aside0.mk h6
 clear h6
 obtain rfl:=Option.some.inj H
 go_enter Try.func89,Try.ntmps89
 go_wp2_with (first | ((with_reducible refine gate_dst (N:=2) rfl ?_);refine box_event ?hg (N:=2) ?hd (cs:=#[.slice b6 b3.length b7,.slice b8 b2.length b9]) (t:=109) ?hr ?_;(case hd=>rfl);(case hg=>rfl);(case hr=>first | (go_simp;done) | (go_simp;rfl));intro b1 hg w5 hbox hb;have d3:=Aside0.mk (below_step (by repeat (first | (with_reducible first | exact HB.out | apply below_alloc | apply pw_below_drewN | apply below_drew1) | exact HB.out)) hb);have d4:=Aside0.mk (hbox);have d6:=Aside0.mk ((by rw [hg];exact (below_size (by repeat (first | (with_reducible first | exact HB.out | apply below_alloc | apply pw_below_drewN | apply below_drew1) | exact HB.out))):w.heap.size ≤ b1));have d7:=Aside0.mk ((by rw [hg];exact (below_size (by repeat (first | (with_reducible first | exact HB.out | apply below_alloc | apply pw_below_drewN | apply below_drew1) | exact HB.out))):w.heap.size ≤ b1));clear HB;have HB:=d3;have b0:=d4;have d5:=d6;have b5:=d7;clear d3 d4 d6 d7;clear hb hbox hg;have e5:w5.cell? ⟨b1,0,none⟩ = some (.slice b6 b3.length b7):=(blk_cell b0.out 0).trans rfl;have e6:w5.cell? ⟨b1,1,none⟩ = some (.slice b8 b2.length b9):=(blk_cell b0.out 1).trans rfl;have e7:=blk_frozen b0.out 0;have e8:=blk_frozen b0.out 1) | (go_at_call 110;(with_reducible refine (contains118.calls k _ _ l1 b4 _ ?side1 ?side2 A4.out).mono ?_);(case side1=>repeat (first | exact (Kd.C_below h7.out HB.out) | (with_reducible refine Kd.C_alloc ?_ _) | (with_reducible refine Kd.C_drewN ?_ _) | (with_reducible refine Kd.C_drew ?_)));(case side2=>exact h8.out);rintro e w7 ⟨rfl,hb⟩;have d3:=Aside0.mk (blk_below (g:=b1) (o:=.cells #[.slice b6 b3.length b7,.slice b8 b2.length b9] 109 (0,0)) (by (with_reducible repeat (first | refine blk_drewN ?_ _ | refine blk_drew ?_ | refine blk_alloc ?_ _));exact b0.out) hb);have d4:=Aside0.mk (below_step (by repeat (first | (with_reducible first | exact HB.out | apply below_alloc | apply pw_below_drewN | apply below_drew1 | refine below_set ?_ b5.out) | exact HB.out)) hb);clear b0;clear HB;have b0:=d3;have HB:=d4;clear d3 d4;(try clear hb)))
 go_ret
 exact ⟨by first | rfl | (simp [errW_none,errW_some] <;> rfl) | (simp [*,errW_none,errW_some] <;> rfl),by repeat (first | (with_reducible first | exact HB.out | apply below_alloc | apply pw_below_drewN | apply below_drew1 | refine below_set ?_ b5.out) | exact HB.out)⟩
end Go.Proofs.Ytjohcjfmlhihbaa.G
namespace Go.Proofs.Ytjohcjfmlhihbaa.G
open Go.RowKit Go.Proofs.YtjohcjfmlhihbaaW.PrintWords Go.Proofs.YtjohcjfmlhihbaaW.PrintLast Go.Proofs.YtjohcjfmlhihbaaW.PrintMore
set_option maxHeartbeats 8000000
set_option maxRecDepth 100000
attribute [local go_sem] cond_true cond_false fld23_0 fld23_1 fld45_0 fld45_1 fld109_0 fld109_1 fld94_0 fld94_1 max2_int min2_int max_two min_two max_three min_three max_four min_four
attribute [local go_sem high] eqA51
def shares_net_loads.l0:Nat → List (S23) → List (S23) → Int → Int → List Int → List (S45) → Option ((List (S23)))
 | 0,_,_,_,_,_,_=>none
 | k + 1,x1,x5,x9,e8,b5,b6=>if e8 < x9 then ((shares_net_load.f k b5 b6 x1 e8).bind fun d4=>(if x5.length < 8796093022208 then (shares_net_loads.l0 k x1 (x5 ++ [(⟨d4.1,d4.2⟩:S23)]) x9 (wrap64 (e8 + 1)) b5 b6) else (none))) else (some x5)
def shares_net_loads.f (k:Nat) (b1:List Int) (b2:List (S45)) (l1:List (S23)):Option ((List (S23))):=shares_net_loads.l0 k l1 ([]:List (S23)) (b1.length:Int) 0 b1 b2
theorem shares_net_loads.mono_l:∀ k,(∀ y0 y1 y2 y3 y4 y5,LeO (shares_net_loads.l0 k y0 y1 y2 y3 y4 y5) (shares_net_loads.l0 (k + 1) y0 y1 y2 y3 y4 y5))
 | 0=>fun _ _ _ _ _ _ r h=>by simp [shares_net_loads.l0] at h
 | k + 1=>by
  have e9:=shares_net_loads.mono_l k
  intro y0 y1 y2 y3 y4 y5
  unfold shares_net_loads.l0
  repeat' first
  | (with_reducible first | exact e9 _ _ _ _ _ _ | exact shares_net_load.mono _ _ _ _ _ | exact LeO.refl _ | exact LeO.none _ | refine LeO.ite ?_ ?_ | refine LeO.bind ?_ (fun _=>?_))
  | exact LeO.none _ | refine LeO.ite ?_ ?_ | refine LeO.bind ?_ (fun _=>?_)
theorem shares_net_loads.mono:∀ a0 a1 a2 k,LeO (shares_net_loads.f k a0 a1 a2) (shares_net_loads.f (k + 1) a0 a1 a2):=by
 intro a0 a1 a2 k
 have e9:=shares_net_loads.mono_l k
 unfold shares_net_loads.f
 repeat' first
   | (with_reducible first | exact e9 _ _ _ _ _ _ | exact shares_net_load.mono _ _ _ _ _ | exact LeO.refl _ | exact LeO.none _ | refine LeO.ite ?_ ?_ | refine LeO.bind ?_ (fun _=>?_))
   | exact LeO.none _ | refine LeO.ite ?_ ?_ | refine LeO.bind ?_ (fun _=>?_)
theorem shares_net_loads.calls (k:Nat) (b7:Option Addr) (b8:Nat) (b1:List Int) (b9:Option Addr) (c0:Nat) (b2:List (S45)) (A1:Option Addr) (c1:Nat) (l1:List (S23)) (r:List (S23)) (w:World) (d6:Kd.C (Kd.int .i64) w b7 b1.length b1) (d7:b1.length ≤ b8) (d8:Kd.C k45 w b9 b2.length b2) (d9:b2.length ≤ c0) (i1:Kd.C k23 w A1 l1.length l1) (i2:l1.length ≤ c1) (h:shares_net_loads.f k b1 b2 l1 = some r) :
  Calls Try.prog 90 #[.agg #[.slice b7 b1.length b8,.slice b9 b2.length c0],.slice A1 l1.length c1] w fun e w'=>∃ i3:Value,e = .returned (i3) ∧ Kd.R k23 23 w' w.heap.size (fun _=>True) i3 r ∧ Below w.heap.size w w':=by
 have i4:=Try.underlying109
 have e3:=A_ d6
 have e4:=A_ d7
 clear d6 d7
 have e5:=A_ d8
 have e6:=A_ d9
 clear d8 d9
 have i7:=A_ i1
 have i8:=A_ i2
 clear i1 i2
 have HB:=A_ (Below.refl w.heap.size w)
 have H:(shares_net_loads.l0 k l1 ([]:List (S23)) (b1.length:Int) 0 b1 b2) = some r:=h
 clear h
 have H':=A_ H
 clear H
 go_enter Try.func90,Try.ntmps90
 go_wp2_with (first | ((with_reducible refine gate_dst (N:=2) rfl ?_);refine bx 2 #[.slice b7 b1.length b8,.slice b9 b2.length c0] 109 ?_;intro b3 hg w3 hbox hb;have b0:=A_ hbox;have e0:=gw hg HB;have h0:=e0;replace HB:=bB HB hb;clear hb hbox hg;have h1:w3.cell? ⟨b3,0,none⟩ = some (.slice b7 b1.length b8):=cz b0 0;have h2:w3.cell? ⟨b3,1,none⟩ = some (.slice b9 b2.length c0):=cz b0 1;have h3:=blk_frozen b0.out 0;have h4:=blk_frozen b0.out 1))
 go_loopg [5,10] k (fun kq v5 i9 w'=>∃ (d5:List (S23)) (b4:Int),i9 = .int .i64 b4 ∧ Aside0 (shares_net_loads.l0 kq l1 d5 (b1.length:Int) b4 b1 b2 = some r) ∧ Aside0 (kq ≤ k) ∧ Aside0 (Kd.R k23 23 w' w.heap.size (fun _=>True) v5 d5) ∧ Aside0 (w'.heap[b3]? = some (.cells #[(.slice b7 b1.length b8),(.slice b9 b2.length c0)] 109 (0,0))) ∧ Aside0 (Below w.heap.size w w'))
 case atStart=>exact ⟨(([]:List (S23))),(0),(by first | rfl | (simp;done) | (simp [*];done)),H',⟨Nat.le_refl _⟩,⟨by first | exact Kd.R_nil _ _ _ _ _ | exact Kd.N_nil _ _ _ _ _ | exact Kd.V_nil _ _ _ _ _ | exact Kd.Q_nil _ _ _ _ _ | exact Kd.S_nil _ _ _ _ _⟩,⟨by (with_reducible repeat (first | refine blk_drewN ?_ _ | refine blk_drew ?_ | refine blk_alloc ?_ _));exact b0.out⟩,⟨bl HB⟩⟩
 case round =>
  clear H'
  obtain ⟨d5,b4,rfl,HA,i5,d3,b0,HB⟩:=hrel
  cases gk with
  | zero=>exact absurd HA.out (by simp [shares_net_loads.l0])
  | succ k1 =>
   have H:=HA.out
   clear HA
   simp only [shares_net_loads.l0] at H
   by_cases c5:b4 < (b1.length:Int)
   case neg =>
    rw [if_neg c5] at H
    have h5:=decide_eq_false c5
    clear c5
    obtain rfl:=Option.some.inj H
    go_wp2
    go_ret
    exact ⟨_,by first | rfl | (simp [errW_none,errW_some] <;> rfl) | (simp [*,errW_none,errW_some] <;> rfl),by (with_reducible repeat (first | apply Kd.R_alloc | apply Kd.R_drewN | apply Kd.R_drew));exact d3.out,bl HB⟩
   rw [if_pos c5] at H
   have h5:=decide_eq_true c5
   clear c5
   replace H:=Option.bind_eq_some_iff.mp H
   obtain ⟨⟨d0,d1⟩,A60,H⟩:=H
   dsimp only at H
   have A6:=A_ A60
   clear A60
   replace H:=gd H
   obtain ⟨c7,H⟩:=H
   have h6:=A_ c7
   clear c7
   obtain ⟨e7,d2⟩:∃ y_:List (S23),y_ = (d5 ++ [(⟨d0,d1⟩:S23)]):=⟨_,rfl⟩
   rw [← d2] at H
   have e1:=A_ d2
   clear d2
   have H':=A_ H
   clear H
   have h7:wr.cell? ⟨b3,0,none⟩ = some (.slice b7 b1.length b8):=cz b0 0
   have h8:wr.cell? ⟨b3,1,none⟩ = some (.slice b9 b2.length c0):=cz b0 1
   have h9:=blk_frozen b0.out 0
   have i0:=blk_frozen b0.out 1
   go_wp2_with (first | ((with_reducible refine gate_callee (f:=107) rfl ?_);refine gL (some 17) Try.func107 #[.agg #[.slice b7 b1.length b8,.slice b9 b2.length c0],.slice A1 l1.length c1,.int .i64 b4] ?_;(with_reducible refine (shares_net_load.calls k1 _ _ b1 _ _ b2 _ _ l1 b4 d0 d1 _ ?side1 ?side2 ?side3 ?side4 ?side5 ?side6 A6.out).mono ?_);(case side1=>exact cB e3 HB);(case side2=>exact e4.out);(case side3=>exact cB e5 HB);(case side4=>exact e6.out);(case side5=>exact cB i7 HB);(case side6=>exact i8.out);rintro e w9 ⟨rfl,hb⟩;refine ⟨_,rfl,?_⟩;replace d3:=rB d3 hb;replace b0:=kB b0 hb;replace HB:=bB HB hb;(try clear hb)) | ((with_reducible refine gate_builtin (b:=.append) (xs:=#[.tmp 13,.tmp 18]) rfl ?_);at_builtin;refine Kd.R_append k23 (w0:=w) w.heap.size rfl (.tmp 13) (.tmp 18) 35 23 (.agg #[(.int .i64 0),(.int .i64 0)]) 16 rfl Try.underlying35 info23 rfl (by decide) (by omega) u5 d5 (⟨d0,d1⟩:S23) [.int .i64 d0,.int .i64 d1] (fun _=>True) (fun _=>False) rfl rfl ?aP (fun _ hk=>hk.elim) ?aF ?aO ?aB ?aS ?aL ?_;(case aP=>exact k23_mkM _ _ _ (⟨d0,d1⟩:S23));(case aB=>exact (bl HB));(case aF=>exact (fun _ _=>trivial));(case aO=>exact (rs d3));(case aS=>exact (below_size (bl HB)));(case aL=>have:=h6.out;omega);intro i6 j5 ho hb hg hat;rw [← e1.out] at ho;have e2:=A_ ho;replace b0:=A_ (blk_grown (g:=b3) (o:=.cells #[.slice b7 b1.length b8,.slice b9 b2.length c0] 109 (0,0)) (kb b0) hg (Kd.R_ne d3.out b0.out (by decide)));replace HB:=A_ hb;clear d3;clear ho hb hg hat))
   go_roundg k1
   case measure=>have:=i5.out;omega
   case rel=>exact ⟨(e7),(wrap64 (b4 + 1)),(by first | rfl | (simp;done) | (simp [*];done)),H',⟨by have:=i5.out;omega⟩,⟨by (with_reducible repeat (first | apply Kd.R_alloc | apply Kd.R_drewN | apply Kd.R_drew));exact e2.out⟩,⟨by (with_reducible repeat (first | refine blk_drewN ?_ _ | refine blk_drew ?_ | refine blk_alloc ?_ _));exact b0.out⟩,⟨bl HB⟩⟩
end Go.Proofs.Ytjohcjfmlhihbaa.G
namespace Go.Proofs.Ytjohcjfmlhihbaa.G
open Go.RowKit Go.Proofs.YtjohcjfmlhihbaaW.PrintWords Go.Proofs.YtjohcjfmlhihbaaW.PrintLast Go.Proofs.YtjohcjfmlhihbaaW.PrintMore
set_option maxHeartbeats 8000000
set_option maxRecDepth 100000
attribute [local go_sem] cond_true cond_false fld23_0 fld23_1 fld45_0 fld45_1 fld109_0 fld109_1 fld94_0 fld94_1 max2_int min2_int max_two min_two max_three min_three max_four min_four
mutual
def shares_Better.l0:Nat → List Int → List (S45) → List (S23) → List (S23) → Int → Int → List Int → List (S45) → Option (Int × Int)
 | 0,_,_,_,_,_,_,_,_=>none
 | k + 1,x0,x1,x2,m4,q4,h7,d0,d1=>if h7 < q4 then (if 0 ≤ h7 then (if h7 < (m4.length:Int) then (if h7 < (x0.length:Int) then ((shares_whole.f (rd x0 h7)).bind fun e9=>((shares_compare.f k ((rd_T23 m4 h7).f0) ((rd_T23 m4 h7).f1) e9.1 e9.2).bind fun d9=>(if d9 > 0 then (some (0,10)) else (shares_Better.l0 k x0 x1 x2 m4 q4 (wrap64 (h7 + 1)) d0 d1)))) else (none)) else (none)) else (none)) else (shares_Better.l1 k x2 (x1.length:Int) 0 d0 d1)
def shares_Better.l1:Nat → List (S23) → Int → Int → List Int → List (S45) → Option (Int × Int)
 | 0,_,_,_,_,_=>none
 | k + 1,x2,q5,m5,d0,d1=>if m5 < q5 then ((shares_net_held.f k d0 d1 x2 m5).bind fun e0=>(if e0 < 0 then (some (m5,0)) else (shares_Better.l1 k x2 q5 (wrap64 (m5 + 1)) d0 d1))) else (some ((-1),0))
end
def shares_Better.f (k:Nat) (l0:List Int) (l1:List (S45)) (l2:List (S23)):Option (Int × Int):=(shares_newNet.f k l0 l1).bind fun e1=>(if e1 = true then ((shares_net_areRates.f k l0 l1 l2).bind fun d4=>(if d4 = true then ((shares_net_loads.f k l0 l1 l2).bind fun b1=>(shares_Better.l0 k l0 l1 l2 b1 (b1.length:Int) 0 l0 l1)) else (some (0,10)))) else (some (0,2)))
theorem shares_Better.mono_l:∀ k,(∀ y0 y1 y2 y3 y4 y5 y6 y7,LeO (shares_Better.l0 k y0 y1 y2 y3 y4 y5 y6 y7) (shares_Better.l0 (k + 1) y0 y1 y2 y3 y4 y5 y6 y7)) ∧ (∀ y0 y1 y2 y3 y4,LeO (shares_Better.l1 k y0 y1 y2 y3 y4) (shares_Better.l1 (k + 1) y0 y1 y2 y3 y4))
 | 0=>⟨fun _ _ _ _ _ _ _ _ r h=>by simp [shares_Better.l0] at h,fun _ _ _ _ _ r h=>by simp [shares_Better.l1] at h⟩
 | k + 1=>by
  obtain ⟨m6,m7⟩:=shares_Better.mono_l k
  refine ⟨?_,?_⟩
  ·intro y0 y1 y2 y3 y4 y5 y6 y7
   unfold shares_Better.l0
   repeat' first
   | (with_reducible first | exact m6 _ _ _ _ _ _ _ _ | exact m7 _ _ _ _ _ | exact shares_compare.mono _ _ _ _ _ | exact shares_net_areRates.mono _ _ _ _ | exact shares_net_held.mono _ _ _ _ _ | exact shares_net_loads.mono _ _ _ _ | exact shares_newNet.mono _ _ _ | exact LeO.refl _ | exact LeO.none _ | refine LeO.ite ?_ ?_ | refine LeO.bind ?_ (fun _=>?_))
   | exact LeO.none _ | refine LeO.ite ?_ ?_ | refine LeO.bind ?_ (fun _=>?_)
  intro y0 y1 y2 y3 y4
  unfold shares_Better.l1
  repeat' first
  | (with_reducible first | exact m6 _ _ _ _ _ _ _ _ | exact m7 _ _ _ _ _ | exact shares_compare.mono _ _ _ _ _ | exact shares_net_areRates.mono _ _ _ _ | exact shares_net_held.mono _ _ _ _ _ | exact shares_net_loads.mono _ _ _ _ | exact shares_newNet.mono _ _ _ | exact LeO.refl _ | exact LeO.none _ | refine LeO.ite ?_ ?_ | refine LeO.bind ?_ (fun _=>?_))
  | exact LeO.none _ | refine LeO.ite ?_ ?_ | refine LeO.bind ?_ (fun _=>?_)
theorem shares_Better.mono:∀ a0 a1 a2 k,LeO (shares_Better.f k a0 a1 a2) (shares_Better.f (k + 1) a0 a1 a2):=by
 intro a0 a1 a2 k
 obtain ⟨m6,m7⟩:=shares_Better.mono_l k
 unfold shares_Better.f
 repeat' first
   | (with_reducible first | exact m6 _ _ _ _ _ _ _ _ | exact m7 _ _ _ _ _ | exact shares_compare.mono _ _ _ _ _ | exact shares_net_areRates.mono _ _ _ _ | exact shares_net_held.mono _ _ _ _ _ | exact shares_net_loads.mono _ _ _ _ | exact shares_newNet.mono _ _ _ | exact LeO.refl _ | exact LeO.none _ | refine LeO.ite ?_ ?_ | refine LeO.bind ?_ (fun _=>?_))
   | exact LeO.none _ | refine LeO.ite ?_ ?_ | refine LeO.bind ?_ (fun _=>?_)
def shares_Better.T9:Bool × List (List Nat × List Nat):=(true,[([],[]),([],[]),([],[]),([1,2],[1,2]),([3],[3]),([4],[4]),([0,5,5],[0,5]),([6],[6])])
def shares_Better.B9:List Nat:=[0,0,0,6,14,30,63,127]
theorem shares_Better.tab9:rtab .any (opsOf Try.f58 9) = shares_Better.T9:=by kernel_rfl
theorem shares_Better.bits9:waitsOk shares_Better.T9.2 shares_Better.B9 = true:=by kernel_rfl
theorem shares_Better.calls (k:Nat) (A0:Option Addr) (c0:Nat) (l0:List Int) (A1:Option Addr) (c1:Nat) (l1:List (S45)) (A2:Option Addr) (c2:Nat) (l2:List (S23)) (r1:Int) (r2:Int) (w:World) (q6:Kd.C (Kd.int .i64) w A0 l0.length l0) (q7:l0.length ≤ c0) (q8:Kd.C k45 w A1 l1.length l1) (q9:l1.length ≤ c1) (r0:Kd.C k23 w A2 l2.length l2) (r3:l2.length ≤ c2) (h:shares_Better.f k l0 l1 l2 = some (r1,r2)) :
  Calls Try.prog 58 #[.slice A0 l0.length c0,.slice A1 l1.length c1,.slice A2 l2.length c2] w fun e w'=>e = .returned (.tuple #[.int .i64 r1,.int .i64 r2]) ∧ Below w.heap.size w w':=by
 have r4:=Try.underlying109
 have t7:=Try.underlying23
 have h6:=A_ q6
 have h8:=A_ q7
 clear q6 q7
 have h9:=A_ q8
 have i0:=A_ q9
 clear q8 q9
 have l6:=A_ r0
 have l7:=A_ r3
 clear r0 r3
 have HB:=A_ (Below.refl w.heap.size w)
 have H:((shares_newNet.f k l0 l1).bind fun e1=>(if e1 = true then ((shares_net_areRates.f k l0 l1 l2).bind fun d4=>(if d4 = true then ((shares_net_loads.f k l0 l1 l2).bind fun b1=>(shares_Better.l0 k l0 l1 l2 b1 (b1.length:Int) 0 l0 l1)) else (some (0,10)))) else (some (0,2)))) = some (r1,r2):=h
 clear h
 replace H:=Option.bind_eq_some_iff.mp H
 obtain ⟨e1,r5,H⟩:=H
 replace H:(if e1 = true then ((shares_net_areRates.f k l0 l1 l2).bind fun d4=>(if d4 = true then ((shares_net_loads.f k l0 l1 l2).bind fun b1=>(shares_Better.l0 k l0 l1 l2 b1 (b1.length:Int) 0 l0 l1)) else (some (0,10)))) else (some (0,2))) = some (r1,r2):=H
 have A4:=A_ r5
 clear r5
 by_cases c5:e1 = true
 case neg =>
  replace c5:=Bool.eq_false_iff.mpr c5
  subst c5
  rw [if_neg (show ¬ (false = true) by decide)] at H
  simp only [Option.some.injEq,Prod.mk.injEq] at H
  obtain ⟨rfl,rfl⟩:=H
  go_enter Try.func58,Try.ntmps58
  go_wp2_with (first | ((with_reducible refine gate_callee (f:=70) rfl ?_);refine gL (some 16) Try.func70 #[.slice A0 l0.length c0,.slice A1 l1.length c1] ?_;(with_reducible refine (shares_newNet.calls k _ _ l0 _ _ l1 false _ ?side1 ?side2 ?side3 ?side4 A4.out).mono ?_);(case side1=>repeat (first | exact h6.out | (with_reducible refine Kd.C_alloc ?_ _) | (with_reducible refine Kd.C_drewN ?_ _) | (with_reducible refine Kd.C_drew ?_)));(case side2=>exact h8.out);(case side3=>repeat (first | exact h9.out | (with_reducible refine Kd.C_alloc ?_ _) | (with_reducible refine Kd.C_drewN ?_ _) | (with_reducible refine Kd.C_drew ?_)));(case side4=>exact i0.out);rintro e x6 ⟨rfl,hb⟩;refine ⟨_,rfl,?_⟩;replace HB:=bB HB hb;(try clear hb)) | ((with_reducible refine gate_dst (N:=8) rfl ?_);refine bx 8 #[.slice none 0 0,.slice none 0 0] 109 ?_;intro h0 hg r6 hbox hb;have e4:=A_ hbox;have i1:=gw hg HB;have q1:=i1;replace HB:=bB HB hb;clear hb hbox hg;have m8:r6.cell? ⟨h0,0,none⟩ = some (.slice none 0 0):=cz e4 0;have m9:r6.cell? ⟨h0,1,none⟩ = some (.slice none 0 0):=cz e4 1;have n0:=blk_frozen e4.out 0;have n1:=blk_frozen e4.out 1))
  go_ret2
  exact ⟨by first | rfl | (simp [errW_none,errW_some] <;> rfl) | (simp [*,errW_none,errW_some] <;> rfl),bl HB⟩
 subst c5
 rw [if_pos rfl] at H
 replace H:=Option.bind_eq_some_iff.mp H
 obtain ⟨d4,r7,H⟩:=H
 replace H:(if d4 = true then ((shares_net_loads.f k l0 l1 l2).bind fun b1=>(shares_Better.l0 k l0 l1 l2 b1 (b1.length:Int) 0 l0 l1)) else (some (0,10))) = some (r1,r2):=H
 have A6:=A_ r7
 clear r7
 by_cases c7:d4 = true
 case neg =>
  replace c7:=Bool.eq_false_iff.mpr c7
  subst c7
  rw [if_neg (show ¬ (false = true) by decide)] at H
  simp only [Option.some.injEq,Prod.mk.injEq] at H
  obtain ⟨rfl,rfl⟩:=H
  go_enter Try.func58,Try.ntmps58
  go_wp2_with (first | ((with_reducible refine gate_callee (f:=70) rfl ?_);refine gL (some 16) Try.func70 #[.slice A0 l0.length c0,.slice A1 l1.length c1] ?_;(with_reducible refine (shares_newNet.calls k _ _ l0 _ _ l1 true _ ?side1 ?side2 ?side3 ?side4 A4.out).mono ?_);(case side1=>repeat (first | exact h6.out | (with_reducible refine Kd.C_alloc ?_ _) | (with_reducible refine Kd.C_drewN ?_ _) | (with_reducible refine Kd.C_drew ?_)));(case side2=>exact h8.out);(case side3=>repeat (first | exact h9.out | (with_reducible refine Kd.C_alloc ?_ _) | (with_reducible refine Kd.C_drewN ?_ _) | (with_reducible refine Kd.C_drew ?_)));(case side4=>exact i0.out);rintro e x7 ⟨rfl,hb⟩;refine ⟨_,rfl,?_⟩;replace HB:=bB HB hb;(try clear hb)) | ((with_reducible refine gate_dst (N:=8) rfl ?_);refine bx 8 #[.slice none 0 0,.slice none 0 0] 109 ?_;intro b7 hg r8 hbox hb;have b0:=A_ hbox;have e5:=gw hg HB;have i2:=e5;replace HB:=bB HB hb;clear hb hbox hg;have n2:r8.cell? ⟨b7,0,none⟩ = some (.slice none 0 0):=cz b0 0;have n3:r8.cell? ⟨b7,1,none⟩ = some (.slice none 0 0):=cz b0 1;have n4:=blk_frozen b0.out 0;have n5:=blk_frozen b0.out 1) | ((with_reducible refine gate_callee (f:=89) rfl ?_);refine gL (some 25) Try.func89 #[.agg #[.slice A0 l0.length c0,.slice A1 l1.length c1],.slice A2 l2.length c2] ?_;(with_reducible refine (shares_net_areRates.calls k _ _ l0 _ _ l1 _ _ l2 false _ ?side1 ?side2 ?side3 ?side4 ?side5 ?side6 A6.out).mono ?_);(case side1=>exact Kd.C_below h6.out (bl HB));(case side2=>exact h8.out);(case side3=>exact Kd.C_below h9.out (bl HB));(case side4=>exact i0.out);(case side5=>exact Kd.C_below l6.out (bl HB));(case side6=>exact l7.out);rintro e x8 ⟨rfl,hb⟩;refine ⟨_,rfl,?_⟩;replace b0:=A_ (blk_below (g:=b7) (o:=.cells #[.slice A0 l0.length c0,.slice A1 l1.length c1] 109 (0,0)) (by (with_reducible repeat (first | refine blk_drewN ?_ _ | refine blk_drew ?_ | refine blk_alloc ?_ _));refine blk_put (cs:=#[.slice A0 l0.length c0,.slice none 0 0]) ?_ 1 _ rfl;(with_reducible repeat (first | refine blk_drewN ?_ _ | refine blk_drew ?_ | refine blk_alloc ?_ _));refine blk_put (cs:=#[.slice none 0 0,.slice none 0 0]) ?_ 0 _ rfl;(with_reducible repeat (first | refine blk_drewN ?_ _ | refine blk_drew ?_ | refine blk_alloc ?_ _));exact b0.out) hb);replace HB:=bB HB hb;(try clear hb)))
  go_ret2
  exact ⟨by first | rfl | (simp [errW_none,errW_some] <;> rfl) | (simp [*,errW_none,errW_some] <;> rfl),bl HB⟩
 subst c7
 rw [if_pos rfl] at H
 replace H:=Option.bind_eq_some_iff.mp H
 obtain ⟨b1,r9,H⟩:=H
 replace H:(shares_Better.l0 k l0 l1 l2 b1 (b1.length:Int) 0 l0 l1) = some (r1,r2):=H
 have A8:=A_ r9
 clear r9
 have H':=A_ H
 clear H
 go_enter Try.func58,Try.ntmps58
 go_wp2_with (first | ((with_reducible refine gate_callee (f:=70) rfl ?_);refine gL (some 16) Try.func70 #[.slice A0 l0.length c0,.slice A1 l1.length c1] ?_;(with_reducible refine (shares_newNet.calls k _ _ l0 _ _ l1 true _ ?side1 ?side2 ?side3 ?side4 A4.out).mono ?_);(case side1=>repeat (first | exact h6.out | (with_reducible refine Kd.C_alloc ?_ _) | (with_reducible refine Kd.C_drewN ?_ _) | (with_reducible refine Kd.C_drew ?_)));(case side2=>exact h8.out);(case side3=>repeat (first | exact h9.out | (with_reducible refine Kd.C_alloc ?_ _) | (with_reducible refine Kd.C_drewN ?_ _) | (with_reducible refine Kd.C_drew ?_)));(case side4=>exact i0.out);rintro e w9 ⟨rfl,hb⟩;refine ⟨_,rfl,?_⟩;replace HB:=bB HB hb;(try clear hb)) | ((with_reducible refine gate_dst (N:=8) rfl ?_);refine bx 8 #[.slice none 0 0,.slice none 0 0] 109 ?_;intro b7 hg s0 hbox hb;have b0:=A_ hbox;have e5:=gw hg HB;have i2:=e5;replace HB:=bB HB hb;clear hb hbox hg;have n6:s0.cell? ⟨b7,0,none⟩ = some (.slice none 0 0):=cz b0 0;have n7:s0.cell? ⟨b7,1,none⟩ = some (.slice none 0 0):=cz b0 1;have n8:=blk_frozen b0.out 0;have n9:=blk_frozen b0.out 1) | ((with_reducible refine gate_callee (f:=89) rfl ?_);refine gL (some 25) Try.func89 #[.agg #[.slice A0 l0.length c0,.slice A1 l1.length c1],.slice A2 l2.length c2] ?_;(with_reducible refine (shares_net_areRates.calls k _ _ l0 _ _ l1 _ _ l2 true _ ?side1 ?side2 ?side3 ?side4 ?side5 ?side6 A6.out).mono ?_);(case side1=>exact Kd.C_below h6.out (bl HB));(case side2=>exact h8.out);(case side3=>exact Kd.C_below h9.out (bl HB));(case side4=>exact i0.out);(case side5=>exact Kd.C_below l6.out (bl HB));(case side6=>exact l7.out);rintro e s1 ⟨rfl,hb⟩;refine ⟨_,rfl,?_⟩;replace b0:=A_ (blk_below (g:=b7) (o:=.cells #[.slice A0 l0.length c0,.slice A1 l1.length c1] 109 (0,0)) (by (with_reducible repeat (first | refine blk_drewN ?_ _ | refine blk_drew ?_ | refine blk_alloc ?_ _));refine blk_put (cs:=#[.slice A0 l0.length c0,.slice none 0 0]) ?_ 1 _ rfl;(with_reducible repeat (first | refine blk_drewN ?_ _ | refine blk_drew ?_ | refine blk_alloc ?_ _));refine blk_put (cs:=#[.slice none 0 0,.slice none 0 0]) ?_ 0 _ rfl;(with_reducible repeat (first | refine blk_drewN ?_ _ | refine blk_drew ?_ | refine blk_alloc ?_ _));exact b0.out) hb);replace HB:=bB HB hb;(try clear hb);have o0:s1.cell? ⟨b7,0,none⟩ = some (.slice A0 l0.length c0):=cz b0 0;have o1:s1.cell? ⟨b7,1,none⟩ = some (.slice A1 l1.length c1):=cz b0 1;have o2:=blk_frozen b0.out 0;have o3:=blk_frozen b0.out 1) | ((with_reducible refine gate_callee (f:=90) rfl ?_);refine gL (some 29) Try.func90 #[.agg #[.slice A0 l0.length c0,.slice A1 l1.length c1],.slice A2 l2.length c2] ?_;(with_reducible refine (shares_net_loads.calls k _ _ l0 _ _ l1 _ _ l2 b1 _ ?side1 ?side2 ?side3 ?side4 ?side5 ?side6 A8.out).mono ?_);(case side1=>exact cB h6 HB);(case side2=>exact h8.out);(case side3=>exact cB h9 HB);(case side4=>exact i0.out);(case side5=>exact cB l6 HB);(case side6=>exact l7.out);rintro e x9 ⟨s2,rfl,t8,hb⟩;refine ⟨_,rfl,?_⟩;have h1:=A_ (Kd.R_lower t8 (below_size (bl HB)));replace b0:=kB b0 hb;replace HB:=bB HB hb;(try clear hb);obtain ⟨q2,i3,q3⟩:=Kd.R_slice h1.out;subst q3))
 go_loopg [31] k (fun kq t9 w'=>∃ (b2:Int),t9 = .int .i64 b2 ∧ Aside0 (shares_Better.l0 kq l0 l1 l2 b1 (b1.length:Int) b2 l0 l1 = some (r1,r2)) ∧ Aside0 (kq ≤ k) ∧ Aside0 (Kd.R k23 23 w' w.heap.size (fun _=>True) (.slice q2 b1.length i3) b1) ∧ Aside0 (w'.heap[b7]? = some (.cells #[(.slice A0 l0.length c0),(.slice A1 l1.length c1)] 109 (0,0))) ∧ Aside0 (Below w.heap.size w w'))
 case atStart=>exact ⟨(0),(by first | rfl | (simp;done) | (simp [*];done)),H',⟨Nat.le_refl _⟩,⟨by (with_reducible repeat (first | apply Kd.R_alloc | apply Kd.R_drewN | apply Kd.R_drew));exact h1.out⟩,⟨by (with_reducible repeat (first | refine blk_drewN ?_ _ | refine blk_drew ?_ | refine blk_alloc ?_ _));exact b0.out⟩,⟨bl HB⟩⟩
 case round =>
  clear H'
  obtain ⟨b2,rfl,HA,o4,b6,b0,HB⟩:=hrel
  cases gk with
  | zero=>exact absurd HA.out (by simp [shares_Better.l0])
  | succ k1 =>
   have H:=HA.out
   clear HA
   simp only [shares_Better.l0] at H
   by_cases j7:b2 < (b1.length:Int)
   case neg =>
    rw [if_neg j7] at H
    have l8:=decide_eq_false j7
    clear j7
    have H':=A_ H
    clear H
    go_wp2
    go_loopg [47] k1 (fun kq x3 w'=>∃ (d2:Int),x3 = .int .i64 d2 ∧ Aside0 (shares_Better.l1 kq l2 (l1.length:Int) d2 l0 l1 = some (r1,r2)) ∧ Aside0 (kq ≤ k1) ∧ Aside0 (w'.heap[b7]? = some (.cells #[(.slice A0 l0.length c0),(.slice A1 l1.length c1)] 109 (0,0))) ∧ Aside0 (Below w.heap.size w w'))
    case atStart=>exact ⟨(0),(by first | rfl | (simp;done) | (simp [*];done)),H',⟨Nat.le_refl _⟩,⟨by (with_reducible repeat (first | refine blk_drewN ?_ _ | refine blk_drew ?_ | refine blk_alloc ?_ _));exact b0.out⟩,⟨bl HB⟩⟩
    case round =>
     clear H'
     obtain ⟨d2,rfl,HA,s3,b0,HB⟩:=hrel
     cases gk with
     | zero=>exact absurd HA.out (by simp [shares_Better.l1])
     | succ k2 =>
      have H:=HA.out
      clear HA
      simp only [shares_Better.l1] at H
      by_cases j8:d2 < (l1.length:Int)
      case neg =>
       rw [if_neg j8] at H
       have l9:=decide_eq_false j8
       clear j8
       simp only [Option.some.injEq,Prod.mk.injEq] at H
       obtain ⟨rfl,rfl⟩:=H
       go_wp2
       go_ret2
       exact ⟨by first | rfl | (simp [errW_none,errW_some] <;> rfl) | (simp [*,errW_none,errW_some] <;> rfl),bl HB⟩
      rw [if_pos j8] at H
      have l9:=decide_eq_true j8
      clear j8
      replace H:=Option.bind_eq_some_iff.mp H
      obtain ⟨e0,m0,H⟩:=H
      replace H:(if e0 < 0 then (some (d2,0)) else (shares_Better.l1 k2 l2 (l1.length:Int) (wrap64 (d2 + 1)) l0 l1)) = some (r1,r2):=H
      have s4:=A_ m0
      clear m0
      by_cases j9:e0 < 0
      ·rw [if_pos j9] at H
       have m1:=decide_eq_true j9
       clear j9
       simp only [Option.some.injEq,Prod.mk.injEq] at H
       obtain ⟨rfl,rfl⟩:=H
       have o5:wr.cell? ⟨b7,0,none⟩ = some (.slice A0 l0.length c0):=cz b0 0
       have o6:wr.cell? ⟨b7,1,none⟩ = some (.slice A1 l1.length c1):=cz b0 1
       have o7:=blk_frozen b0.out 0
       have o8:=blk_frozen b0.out 1
       go_wp2_with (first | ((with_reducible refine gate_callee (f:=72) rfl ?_);refine gL (some 53) Try.func72 #[.agg #[.slice A0 l0.length c0,.slice A1 l1.length c1],.slice A2 l2.length c2,.int .i64 d2] ?_;(with_reducible refine (shares_net_held.calls k2 _ _ l0 _ _ l1 _ _ l2 d2 e0 _ ?side1 ?side2 ?side3 ?side4 ?side5 ?side6 s4.out).mono ?_);(case side1=>exact cB h6 HB);(case side2=>exact h8.out);(case side3=>exact cB h9 HB);(case side4=>exact i0.out);(case side5=>exact cB l6 HB);(case side6=>exact l7.out);rintro e y8 ⟨rfl,hb⟩;refine ⟨_,rfl,?_⟩;replace b0:=kB b0 hb;replace HB:=bB HB hb;(try clear hb)))
       go_ret2
       exact ⟨by first | rfl | (simp [errW_none,errW_some] <;> rfl) | (simp [*,errW_none,errW_some] <;> rfl),bl HB⟩
      rw [if_neg j9] at H
      have m1:=decide_eq_false j9
      clear j9
      have H':=A_ H
      clear H
      have o9:wr.cell? ⟨b7,0,none⟩ = some (.slice A0 l0.length c0):=cz b0 0
      have p0:wr.cell? ⟨b7,1,none⟩ = some (.slice A1 l1.length c1):=cz b0 1
      have p1:=blk_frozen b0.out 0
      have p2:=blk_frozen b0.out 1
      go_wp2_with (first | ((with_reducible refine gate_callee (f:=72) rfl ?_);refine gL (some 53) Try.func72 #[.agg #[.slice A0 l0.length c0,.slice A1 l1.length c1],.slice A2 l2.length c2,.int .i64 d2] ?_;(with_reducible refine (shares_net_held.calls k2 _ _ l0 _ _ l1 _ _ l2 d2 e0 _ ?side1 ?side2 ?side3 ?side4 ?side5 ?side6 s4.out).mono ?_);(case side1=>exact cB h6 HB);(case side2=>exact h8.out);(case side3=>exact cB h9 HB);(case side4=>exact i0.out);(case side5=>exact cB l6 HB);(case side6=>exact l7.out);rintro e y9 ⟨rfl,hb⟩;refine ⟨_,rfl,?_⟩;replace b0:=kB b0 hb;replace HB:=bB HB hb;(try clear hb)))
      go_roundg k2
      case measure=>have:=o4.out;have:=s3.out;omega
      case rel=>exact ⟨(wrap64 (d2 + 1)),(by first | rfl | (simp;done) | (simp [*];done)),H',⟨by have:=o4.out;have:=s3.out;omega⟩,⟨by (with_reducible repeat (first | refine blk_drewN ?_ _ | refine blk_drew ?_ | refine blk_alloc ?_ _));exact b0.out⟩,⟨bl HB⟩⟩
   rw [if_pos j7] at H
   have l8:=decide_eq_true j7
   clear j7
   replace H:=gd H
   obtain ⟨s5,H⟩:=H
   have s6:=decide_eq_true s5
   clear s5
   replace H:=gd H
   obtain ⟨s7,H⟩:=H
   have s8:=decide_eq_true s7
   clear s7
   replace H:=gd H
   obtain ⟨s9,H⟩:=H
   have t0:=decide_eq_true s9
   clear s9
   replace H:=Option.bind_eq_some_iff.mp H
   obtain ⟨⟨e2,e3⟩,A200,H⟩:=H
   dsimp only at H
   have t1:=A_ A200
   clear A200
   replace H:=Option.bind_eq_some_iff.mp H
   obtain ⟨d9,m2,H⟩:=H
   replace H:(if d9 > 0 then (some (0,10)) else (shares_Better.l0 k1 l0 l1 l2 b1 (b1.length:Int) (wrap64 (b2 + 1)) l0 l1)) = some (r1,r2):=H
   have t2:=A_ m2
   clear m2
   by_cases l5:d9 > 0
   ·rw [if_pos l5] at H
    have m3:=decide_eq_true l5
    clear l5
    simp only [Option.some.injEq,Prod.mk.injEq] at H
    obtain ⟨rfl,rfl⟩:=H
    have d5:0 ≤ (b2:Int):=of_decide_eq_true (by first | (with_reducible assumption) | assumption)
    have d6:b2 < (b1.length:Int):=of_decide_eq_true (by first | (with_reducible assumption) | assumption)
    obtain ⟨e6,h2,h3,h4⟩:=at_T23 (Kd.R_reads' b6.out).2.2 b2 d5 d6
    cases h2
    replace d5:=eq_true d5
    replace d6:=eq_true d6
    try go_wp2_with (first | ((with_reducible refine gate_dst (N:=11) rfl ?_);refine bx 11 #[.int .i64 0,.int .i64 0] 23 ?_;intro b3 hg i4 hbox hb;have b4:=A_ hbox;have e7:=gw hg HB;have i5:=e7;have b8:=nl hg b0;have d3:=ng hg b0;replace b6:=A_ (Kd.R_below (Kd.R_elderB (rs b6) b3 (Nat.le_of_eq hg.symm)) hb);replace b0:=kB b0 hb;replace HB:=bB HB hb;clear hb hbox hg;have t3:=d3.out;have t4:=b8.out;have p3:i4.cell? ⟨b3,0,none⟩ = some (.int .i64 0):=cz b4 0;have p4:i4.cell? ⟨b3,1,none⟩ = some (.int .i64 0):=cz b4 1;have p5:=blk_frozen b4.out 0;have p6:=blk_frozen b4.out 1))
    have i6:Aside0 (Kd.R k23 23 ((i4.setCell ⟨b3,0,none⟩ (.int .i64 ((rd_T23 b1 b2).f0))).setCell ⟨b3,1,none⟩ (.int .i64 ((rd_T23 b1 b2).f1))) w.heap.size (fun k_=>k_ ≠ b3) (.slice (some e6) b1.length i3) b1):=⟨by (with_reducible repeat (first | apply Kd.R_alloc | apply Kd.R_drewN | apply Kd.R_drew));exact Kd.R_mono (Kd.R_far (p:=⟨b3,1,none⟩) (Kd.R_far (p:=⟨b3,0,none⟩) (Kd.R_mono b6.out (fun k_ hk=>(⟨hk,hk.2⟩:_ ∧ k_ ≠ b3))) (fun _ hk=>hk.2) (.int .i64 ((rd_T23 b1 b2).f0))) (fun _ hk=>hk.2) (.int .i64 ((rd_T23 b1 b2).f1))) (fun _ hk=>hk.1.2)⟩
    have i7:Aside0 (((i4.setCell ⟨b3,0,none⟩ (.int .i64 ((rd_T23 b1 b2).f0))).setCell ⟨b3,1,none⟩ (.int .i64 ((rd_T23 b1 b2).f1))).heap[b7]? = some (.cells #[.slice A0 l0.length c0,.slice A1 l1.length c1] 109 (0,0))):=⟨by (with_reducible repeat (first | refine blk_drewN ?_ _ | refine blk_drew ?_ | refine blk_alloc ?_ _));refine blk_far ?_ b8.out _;(with_reducible repeat (first | refine blk_drewN ?_ _ | refine blk_drew ?_ | refine blk_alloc ?_ _));refine blk_far ?_ b8.out _;(with_reducible repeat (first | refine blk_drewN ?_ _ | refine blk_drew ?_ | refine blk_alloc ?_ _));exact b0.out⟩
    have i8:Aside0 (((i4.setCell ⟨b3,0,none⟩ (.int .i64 ((rd_T23 b1 b2).f0))).setCell ⟨b3,1,none⟩ (.int .i64 ((rd_T23 b1 b2).f1))).heap[b3]? = some (.cells #[.int .i64 ((rd_T23 b1 b2).f0),.int .i64 ((rd_T23 b1 b2).f1)] 23 (0,0))):=⟨by (with_reducible repeat (first | refine blk_drewN ?_ _ | refine blk_drew ?_ | refine blk_alloc ?_ _));refine blk_put (cs:=#[.int .i64 ((rd_T23 b1 b2).f0),.int .i64 0]) ?_ 1 _ rfl;(with_reducible repeat (first | refine blk_drewN ?_ _ | refine blk_drew ?_ | refine blk_alloc ?_ _));refine blk_put (cs:=#[.int .i64 0,.int .i64 0]) ?_ 0 _ rfl;(with_reducible repeat (first | refine blk_drewN ?_ _ | refine blk_drew ?_ | refine blk_alloc ?_ _));exact b4.out⟩
    have i9:Aside0 (Below w.heap.size w ((i4.setCell ⟨b3,0,none⟩ (.int .i64 ((rd_T23 b1 b2).f0))).setCell ⟨b3,1,none⟩ (.int .i64 ((rd_T23 b1 b2).f1)))):=⟨bl HB⟩
    generalize ((i4.setCell ⟨b3,0,none⟩ (.int .i64 ((rd_T23 b1 b2).f0))).setCell ⟨b3,1,none⟩ (.int .i64 ((rd_T23 b1 b2).f1))) = x4 at i6 i7 i8 i9 ⊢
    have b6:=i6
    have b0:=i7
    have b4:=i8
    have HB:=i9
    clear i6 i7 i8 i9
    replace b6:=rD b6
    replace b0:=kD b0
    replace b4:=kD b4
    replace HB:=bD HB
    have d7:0 ≤ (b2:Int):=of_decide_eq_true (by first | (with_reducible assumption) | assumption)
    have d8:b2 < (l0.length:Int):=of_decide_eq_true (by first | (with_reducible assumption) | assumption)
    obtain ⟨e8,h5,b9⟩:=Kd.at_int h6.out b2 d7 d8
    have b5:=b9
    cases h5
    replace b9:=(HB.out.cell (World.block_lt_of_cell? w _ b9)).trans b9
    replace d7:=eq_true d7
    replace d8:=eq_true d8
    refine start_ (n:=8) (S:=fun w'=>w'.cell? ⟨b3,0,none⟩ = some (.int .i64 ((rd_T23 b1 b2).f0)) ∧ w'.cell? ⟨b3,1,none⟩ = some (.int .i64 ((rd_T23 b1 b2).f1)) ∧ w'.cell? (e8.add (b2).toNat) = some (.int .i64 (rd l0 b2))) (ds:=[]) (ba 8 0) (by kernel_rfl) rfl rfl ⟨cz b4 0,cz b4 1,((HB.out.cell (World.block_lt_of_cell? w _ b5)).trans b5)⟩ (fun hHeld=>?_);refine with_tabW shares_Better.tab9 shares_Better.bits9 (fun HT_ HW_=>?_)
    generalize x4.drew = z0 at b6 b0 b4 HB b9 hHeld ⊢
    refine pq 1 37 2 HT_ ?_
    refine pq 2 38 6 HT_ ?_
    refine pq 3 39 14 HT_ ?_
    refine tq 0 36 15 HT_ HW_ hHeld ?_
    refine tq 4 40 31 HT_ HW_ hHeld ?_
    refine oq 5 41 63 HT_ (fun K hK=>?_)
    refine gq Try.func64 #[.int .i64 (rd l0 b2)] ?_
    with_reducible refine (shares_whole.calls (rd l0 b2) e2 e3 _ t1.out).mono ?_
    rintro e z1 ⟨rfl,hb⟩
    refine ⟨_,rfl,?_⟩
    replace b6:=rB b6 hb
    replace b0:=kB b0 hb
    replace b4:=kB b4 hb
    replace HB:=bB HB hb
    (try clear hb)
    refine hK.out _ _ ⟨cz b4 0,cz b4 1,((HB.out.cell (World.block_lt_of_cell? w _ b5)).trans b5)⟩ (fun hHeld=>?_)
    clear hK K
    refine nq 41 ?_
    refine oq 6 42 127 HT_ (fun K hK=>?_)
    refine gq Try.func85 #[.agg #[.int .i64 ((rd_T23 b1 b2).f0),.int .i64 ((rd_T23 b1 b2).f1)],.agg #[.int .i64 e2,.int .i64 e3]] ?_
    with_reducible refine (shares_compare.calls k1 ((rd_T23 b1 b2).f0) ((rd_T23 b1 b2).f1) e2 e3 d9 _ t2.out).mono ?_
    rintro e z2 ⟨rfl,hb⟩
    refine ⟨_,rfl,?_⟩
    replace b6:=rB b6 hb
    replace b0:=kB b0 hb
    replace b4:=kB b4 hb
    replace HB:=bB HB hb
    (try clear hb)
    refine hK.out _ _ ⟨cz b4 0,cz b4 1,((HB.out.cell (World.block_lt_of_cell? w _ b5)).trans b5)⟩ (fun hHeld=>?_)
    clear hK K
    refine nq 42 ?_
    refine pq 7 43 255 HT_ ?_
    refine done_ (done_of HT_.out (by kernel_rfl)) ?_
    try go_wp2
    go_ret2
    exact ⟨by first | rfl | (simp [errW_none,errW_some] <;> rfl) | (simp [*,errW_none,errW_some] <;> rfl),bl HB⟩
   rw [if_neg l5] at H
   have m3:=decide_eq_false l5
   clear l5
   have H':=A_ H
   clear H
   have d5:0 ≤ (b2:Int):=of_decide_eq_true (by first | (with_reducible assumption) | assumption)
   have d6:b2 < (b1.length:Int):=of_decide_eq_true (by first | (with_reducible assumption) | assumption)
   obtain ⟨e6,h2,h3,h4⟩:=at_T23 (Kd.R_reads' b6.out).2.2 b2 d5 d6
   cases h2
   replace d5:=eq_true d5
   replace d6:=eq_true d6
   try go_wp2_with (first | ((with_reducible refine gate_dst (N:=11) rfl ?_);refine bx 11 #[.int .i64 0,.int .i64 0] 23 ?_;intro b3 hg j5 hbox hb;have b4:=A_ hbox;have e7:=gw hg HB;have i5:=e7;have b8:=nl hg b0;have d3:=ng hg b0;replace b6:=A_ (Kd.R_below (Kd.R_elderB (rs b6) b3 (Nat.le_of_eq hg.symm)) hb);replace b0:=kB b0 hb;replace HB:=bB HB hb;clear hb hbox hg;have t5:=d3.out;have t6:=b8.out;have p7:j5.cell? ⟨b3,0,none⟩ = some (.int .i64 0):=cz b4 0;have p8:j5.cell? ⟨b3,1,none⟩ = some (.int .i64 0):=cz b4 1;have p9:=blk_frozen b4.out 0;have q0:=blk_frozen b4.out 1))
   have i6:Aside0 (Kd.R k23 23 ((j5.setCell ⟨b3,0,none⟩ (.int .i64 ((rd_T23 b1 b2).f0))).setCell ⟨b3,1,none⟩ (.int .i64 ((rd_T23 b1 b2).f1))) w.heap.size (fun k_=>k_ ≠ b3) (.slice (some e6) b1.length i3) b1):=⟨by (with_reducible repeat (first | apply Kd.R_alloc | apply Kd.R_drewN | apply Kd.R_drew));exact Kd.R_mono (Kd.R_far (p:=⟨b3,1,none⟩) (Kd.R_far (p:=⟨b3,0,none⟩) (Kd.R_mono b6.out (fun k_ hk=>(⟨hk,hk.2⟩:_ ∧ k_ ≠ b3))) (fun _ hk=>hk.2) (.int .i64 ((rd_T23 b1 b2).f0))) (fun _ hk=>hk.2) (.int .i64 ((rd_T23 b1 b2).f1))) (fun _ hk=>hk.1.2)⟩
   have i7:Aside0 (((j5.setCell ⟨b3,0,none⟩ (.int .i64 ((rd_T23 b1 b2).f0))).setCell ⟨b3,1,none⟩ (.int .i64 ((rd_T23 b1 b2).f1))).heap[b7]? = some (.cells #[.slice A0 l0.length c0,.slice A1 l1.length c1] 109 (0,0))):=⟨by (with_reducible repeat (first | refine blk_drewN ?_ _ | refine blk_drew ?_ | refine blk_alloc ?_ _));refine blk_far ?_ b8.out _;(with_reducible repeat (first | refine blk_drewN ?_ _ | refine blk_drew ?_ | refine blk_alloc ?_ _));refine blk_far ?_ b8.out _;(with_reducible repeat (first | refine blk_drewN ?_ _ | refine blk_drew ?_ | refine blk_alloc ?_ _));exact b0.out⟩
   have i8:Aside0 (((j5.setCell ⟨b3,0,none⟩ (.int .i64 ((rd_T23 b1 b2).f0))).setCell ⟨b3,1,none⟩ (.int .i64 ((rd_T23 b1 b2).f1))).heap[b3]? = some (.cells #[.int .i64 ((rd_T23 b1 b2).f0),.int .i64 ((rd_T23 b1 b2).f1)] 23 (0,0))):=⟨by (with_reducible repeat (first | refine blk_drewN ?_ _ | refine blk_drew ?_ | refine blk_alloc ?_ _));refine blk_put (cs:=#[.int .i64 ((rd_T23 b1 b2).f0),.int .i64 0]) ?_ 1 _ rfl;(with_reducible repeat (first | refine blk_drewN ?_ _ | refine blk_drew ?_ | refine blk_alloc ?_ _));refine blk_put (cs:=#[.int .i64 0,.int .i64 0]) ?_ 0 _ rfl;(with_reducible repeat (first | refine blk_drewN ?_ _ | refine blk_drew ?_ | refine blk_alloc ?_ _));exact b4.out⟩
   have i9:Aside0 (Below w.heap.size w ((j5.setCell ⟨b3,0,none⟩ (.int .i64 ((rd_T23 b1 b2).f0))).setCell ⟨b3,1,none⟩ (.int .i64 ((rd_T23 b1 b2).f1)))):=⟨bl HB⟩
   generalize ((j5.setCell ⟨b3,0,none⟩ (.int .i64 ((rd_T23 b1 b2).f0))).setCell ⟨b3,1,none⟩ (.int .i64 ((rd_T23 b1 b2).f1))) = x5 at i6 i7 i8 i9 ⊢
   have b6:=i6
   have b0:=i7
   have b4:=i8
   have HB:=i9
   clear i6 i7 i8 i9
   replace b6:=rD b6
   replace b0:=kD b0
   replace b4:=kD b4
   replace HB:=bD HB
   have d7:0 ≤ (b2:Int):=of_decide_eq_true (by first | (with_reducible assumption) | assumption)
   have d8:b2 < (l0.length:Int):=of_decide_eq_true (by first | (with_reducible assumption) | assumption)
   obtain ⟨e8,h5,b9⟩:=Kd.at_int h6.out b2 d7 d8
   have b5:=b9
   cases h5
   replace b9:=(HB.out.cell (World.block_lt_of_cell? w _ b9)).trans b9
   replace d7:=eq_true d7
   replace d8:=eq_true d8
   refine start_ (n:=8) (S:=fun w'=>w'.cell? ⟨b3,0,none⟩ = some (.int .i64 ((rd_T23 b1 b2).f0)) ∧ w'.cell? ⟨b3,1,none⟩ = some (.int .i64 ((rd_T23 b1 b2).f1)) ∧ w'.cell? (e8.add (b2).toNat) = some (.int .i64 (rd l0 b2))) (ds:=[]) (ba 8 0) (by kernel_rfl) rfl rfl ⟨cz b4 0,cz b4 1,((HB.out.cell (World.block_lt_of_cell? w _ b5)).trans b5)⟩ (fun hHeld=>?_);refine with_tabW shares_Better.tab9 shares_Better.bits9 (fun HT_ HW_=>?_)
   generalize x5.drew = z3 at b6 b0 b4 HB b9 hHeld ⊢
   refine pq 1 37 2 HT_ ?_
   refine pq 2 38 6 HT_ ?_
   refine pq 3 39 14 HT_ ?_
   refine tq 0 36 15 HT_ HW_ hHeld ?_
   refine tq 4 40 31 HT_ HW_ hHeld ?_
   refine oq 5 41 63 HT_ (fun K hK=>?_)
   refine gq Try.func64 #[.int .i64 (rd l0 b2)] ?_
   with_reducible refine (shares_whole.calls (rd l0 b2) e2 e3 _ t1.out).mono ?_
   rintro e z4 ⟨rfl,hb⟩
   refine ⟨_,rfl,?_⟩
   replace b6:=rB b6 hb
   replace b0:=kB b0 hb
   replace b4:=kB b4 hb
   replace HB:=bB HB hb
   (try clear hb)
   refine hK.out _ _ ⟨cz b4 0,cz b4 1,((HB.out.cell (World.block_lt_of_cell? w _ b5)).trans b5)⟩ (fun hHeld=>?_)
   clear hK K
   refine nq 41 ?_
   refine oq 6 42 127 HT_ (fun K hK=>?_)
   refine gq Try.func85 #[.agg #[.int .i64 ((rd_T23 b1 b2).f0),.int .i64 ((rd_T23 b1 b2).f1)],.agg #[.int .i64 e2,.int .i64 e3]] ?_
   with_reducible refine (shares_compare.calls k1 ((rd_T23 b1 b2).f0) ((rd_T23 b1 b2).f1) e2 e3 d9 _ t2.out).mono ?_
   rintro e z5 ⟨rfl,hb⟩
   refine ⟨_,rfl,?_⟩
   replace b6:=rB b6 hb
   replace b0:=kB b0 hb
   replace b4:=kB b4 hb
   replace HB:=bB HB hb
   (try clear hb)
   refine hK.out _ _ ⟨cz b4 0,cz b4 1,((HB.out.cell (World.block_lt_of_cell? w _ b5)).trans b5)⟩ (fun hHeld=>?_)
   clear hK K
   refine nq 42 ?_
   refine pq 7 43 255 HT_ ?_
   refine done_ (done_of HT_.out (by kernel_rfl)) ?_
   try go_wp2
   go_roundg k1
   case measure=>have:=o4.out;omega
   case rel=>exact ⟨(wrap64 (b2 + 1)),(by first | rfl | (simp;done) | (simp [*];done)),H',⟨by have:=o4.out;omega⟩,⟨by (with_reducible repeat (first | apply Kd.R_alloc | apply Kd.R_drewN | apply Kd.R_drew));exact Kd.R_mono b6.out (fun _ hk=>trivial)⟩,⟨by (with_reducible repeat (first | refine blk_drewN ?_ _ | refine blk_drew ?_ | refine blk_alloc ?_ _));exact b0.out⟩,⟨bl HB⟩⟩
end Go.Proofs.Ytjohcjfmlhihbaa.G
