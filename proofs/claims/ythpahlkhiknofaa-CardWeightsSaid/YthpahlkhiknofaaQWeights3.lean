/- Several texts, joined. -/
import Derived.Test.YthpahlkhiknofaaJe
import Derived.Test.YthpahlkhiknofaaQWeights2
set_option linter.unusedVariables false
set_option linter.unusedSimpArgs false
set_option linter.unusedSectionVars false
namespace Go.Proofs.Ythpahlkhiknofaa.P
open Go Go.RowKit Go.Proofs.Ythpahlkhiknofaa.M Go.Proofs.Ythpahlkhiknofaa.G Go.Proofs.Ythpahlkhiknofaa.H
open Go.Proofs.YthpahlkhiknofaaW.PrintWords Go.Proofs.YthpahlkhiknofaaW.PrintMore
def sumQ (F:Nat → Int):Nat → Int
  | 0=>0
  | k + 1=>sumQ F k + F k
theorem sumQ_congr {F G:Nat → Int}:∀ k,(∀ q,q < k → F q = G q) → sumQ F k = sumQ G k
  | 0,_=>rfl
  | k + 1,h=>by rw [sumQ,sumQ,sumQ_congr k fun q hq=>h q (by omega),h k (by omega)]
theorem sumQ_add (F G:Nat → Int):∀ k,sumQ (fun q=>F q + G q) k = sumQ F k + sumQ G k
  | 0=>rfl
  | k + 1=>by rw [sumQ,sumQ,sumQ,sumQ_add F G k];omega
theorem sumQ_mul (a:Int) (F:Nat → Int):∀ k,sumQ (fun q=>F q * a) k = sumQ F k * a
  | 0=>by simp [sumQ]
  | k + 1=>by rw [sumQ,sumQ,sumQ_mul a F k,Int.add_mul]
theorem sumQ_one (p:Nat) (d:Int):∀ k,sumQ (fun q=>if q = p then d else 0) k = if p < k then d else 0
  | 0=>by simp [sumQ]
  | k + 1=>by
    rw [sumQ,sumQ_one p d k]
    by_cases h:p < k
    · rw [if_pos h,if_neg (by omega),if_pos (by omega)];omega
    · by_cases h2:k = p
      · rw [if_neg h,if_pos h2,if_pos (by omega)];omega
      · rw [if_neg h,if_neg h2,if_neg (by omega)];omega
theorem sumQ_nn {F:Nat → Int} (h:∀ q,0 ≤ F q):∀ k,0 ≤ sumQ F k
  | 0=>by simp [sumQ]
  | k + 1=>by rw [sumQ];have:=sumQ_nn h k;have:=h k;omega
theorem cnt_step (ps:List Int) (i:Nat) {p:Nat} (hp:rd ps (i:Int) = (p:Int)) {q:Nat} (hq:q < 32):rd (cntL ps (i + 1)) (q:Int) = rd (cntL ps i) (q:Int) + if q = p then 1 else 0:=by
  rw [rd_get (by rw [cntL_len];exact hq)]
  simp only [cntL,List.getElem_set,hp,Int.toNat_natCast]
  by_cases h:q = p
  · subst h;rw [if_pos rfl,if_pos rfl]
  · have e2:=rd_get (l:=cntL ps i) (i:=q) (by rw [cntL_len];exact hq)
    rw [if_neg (fun e=>h e.symm),if_neg h,e2,Int.add_zero]
theorem sum_step (ps:List Int) (i:Nat) {p:Nat} (hp:rd ps (i:Int) = (p:Int)) (h32:p < 32) (h:Nat → Int):sumQ (fun q=>rd (cntL ps (i + 1)) (q:Int) * h q) 32 = sumQ (fun q=>rd (cntL ps i) (q:Int) * h q) 32 + h p:=by
  have e:sumQ (fun q=>rd (cntL ps (i + 1)) (q:Int) * h q) 32 = sumQ (fun q=>rd (cntL ps i) (q:Int) * h q + if q = p then h p else 0) 32:=sumQ_congr 32 fun q hq=>by
    rw [cnt_step ps i hp hq,Int.add_mul]
    by_cases hqp:q = p
    · subst hqp;rw [if_pos rfl,if_pos rfl];omega
    · rw [if_neg hqp,if_neg hqp];omega
  rw [e,sumQ_add,sumQ_one,if_pos h32]
theorem sum_zero (ps:List Int) (h:Nat → Int):sumQ (fun q=>rd (cntL ps 0) (q:Int) * h q) 32 = 0:=by
  have e:sumQ (fun q=>rd (cntL ps 0) (q:Int) * h q) 32 = sumQ (fun _=>(0:Int) * 0) 32:=sumQ_congr 32 fun q hq=>by
    have:=cntL_bd ps 0 q
    rw [show rd (cntL ps 0) (q:Int) = 0 by omega];omega
  rw [e,sumQ_mul];omega
theorem gcN_dvd (cl:List Int):∀ k q,q < k → gcN cl k ∣ (rd cl (q:Int)).toNat
  | 0,q,h=>by omega
  | k + 1,q,h=>by
    rw [gcN]
    by_cases e:q = k
    · subst e;exact Nat.gcd_dvd_right _ _
    · exact Nat.dvd_trans (Nat.gcd_dvd_left _ _) (gcN_dvd cl k q (by omega))
theorem rep_mul (ps:List Int) (m:Nat) {q:Nat} (hq:q < 32):((repN (cntL ps m) (gcN (cntL ps m) 32) q:Nat):Int) * ((max (gcN (cntL ps m) 32) 1:Nat):Int) = rd (cntL ps m) (q:Int):=by
  have hb:=cntL_bd ps m q
  obtain ⟨t,ht⟩:=gcN_dvd (cntL ps m) 32 q hq
  unfold repN
  generalize hg:gcN (cntL ps m) 32 = g at *
  have e:(rd (cntL ps m) (q:Int)).toNat / max g 1 * max g 1 = (rd (cntL ps m) (q:Int)).toNat:=by
    by_cases h:g = 0
    · subst h;simp
    · rw [show max g 1 = g by omega,ht,Nat.mul_div_cancel_left _ (by omega),Nat.mul_comm]
  rw [← Int.natCast_mul,e,Int.toNat_of_nonneg hb.1]
theorem out_succ (cl:List Int) (g:Nat) (σ:Nat → Bool) (b:Bool) (k:Nat):outL cl g σ b (k + 1) = outL cl g σ b k ++ (if σ k = b then List.replicate (repN cl g k) (k:Int) else []):=by
  unfold outL
  rw [List.range_succ,List.flatMap_append];simp
theorem cnt_rep (v p:Nat):∀ m:Nat,cnt v (List.replicate m (p:Int)) = (m:Int) * bI p v
  | 0=>by simp [cnt]
  | m + 1=>by
    rw [List.replicate_succ,cnt,cnt_rep v p m,Int.toNat_natCast,Int.natCast_add,Int.add_mul];omega
theorem out_cnt (cl:List Int) (g:Nat) (σ:Nat → Bool) (v:Nat):∀ k,cnt v (outL cl g σ true k) - cnt v (outL cl g σ false k) = sumQ (fun q=>(repN cl g q:Int) * ((if σ q = true then 1 else -1) * bI q v)) k
  | 0=>by simp [outL,sumQ,cnt]
  | k + 1=>by
    have ih:=out_cnt cl g σ v k
    rw [out_succ,out_succ,cnt_append,cnt_append,sumQ]
    cases h:σ k
    · rw [if_neg (by decide),if_pos rfl,if_neg (by decide),cnt_rep,show cnt v [] = 0 from rfl,Int.neg_mul,Int.one_mul,Int.mul_neg];omega
    · rw [if_pos rfl,if_neg (by decide),if_pos rfl,cnt_rep,show cnt v [] = 0 from rfl,Int.one_mul];omega
theorem out_lens (cl:List Int) (g:Nat) (σ:Nat → Bool):∀ k,((outL cl g σ true k).length:Int) - (outL cl g σ false k).length = sumQ (fun q=>(repN cl g q:Int) * (if σ q = true then 1 else -1)) k ∧ ((outL cl g σ true k).length:Int) + (outL cl g σ false k).length = sumQ (fun q=>(repN cl g q:Int)) k
  | 0=>by simp [outL,sumQ]
  | k + 1=>by
    have ih:=out_lens cl g σ k
    rw [out_succ,out_succ,List.length_append,List.length_append,sumQ,sumQ]
    cases h:σ k
    · rw [if_neg (by decide),if_pos rfl,if_neg (by decide),List.length_replicate,List.length_nil];omega
    · rw [if_pos rfl,if_neg (by decide),if_pos rfl,List.length_replicate,List.length_nil];omega
theorem out_mem {cl:List Int} {g:Nat} {σ:Nat → Bool} {b:Bool} {k:Nat} {p:Int} (h:p ∈ outL cl g σ b k):∃ q:Nat,q < k ∧ p = (q:Int) ∧ σ q = b ∧ repN cl g q ≠ 0:=by
  unfold outL at h
  obtain ⟨q,hq,hp⟩:=List.mem_flatMap.1 h
  by_cases e:σ q = b
  · rw [if_pos e] at hp
    obtain ⟨h1,h2⟩:=List.mem_replicate.1 hp
    exact ⟨q,List.mem_range.1 hq,h2,e,h1⟩
  · rw [if_neg e] at hp;cases hp
theorem seq_rd {pt:Nat → Int} {J K j:Nat} (h:J + j < K):rd ((seqI pt K).drop J) (j:Int) = pt (J + j):=by
  rw [rd_get (by rw [List.length_drop,seqI_len];omega)]
  simp [seqI]
section
variable {c:ByteArray} {n:Nat} (hT:Tot c n)
include hT
theorem det {st:Nat → List Int} {pt sg:Nat → Int} {K:Nat} (hK:K ≤ 1000000000) (hW:Wg n c st pt sg K):∀ i,i ≤ K → st i = stR c n i ∧ ∀ j,j < i → ∃ q:Nat,J.fwx (fB c) n c.size (J.run (fB c) n c.size j) = some q ∧ pt j = (q:Int) ∧ sg j = J.sgF (fB c) q:=by
  intro i
  induction i with
  | zero=>exact fun _=>⟨hW.z.trans rfl,fun j hj=>by omega⟩
  | succ i ih =>
    intro hi
    have hn:=hT.n5
    have hle:=hT.le
    obtain ⟨e,ih⟩:=ih (by omega)
    obtain ⟨h1,h2,h3⟩:=hW.step i (by omega)
    have hw:=st_wr hT i (by omega)
    rw [e,hw] at h1
    cases eq:J.fwx (fB c) n c.size (J.run (fB c) n c.size i) with
    | none =>
      rw [eq] at h1
      have h4:(-1:Int) = pt i:=congrArg Prod.fst h1
      omega
    | some q =>
      rw [eq] at h1
      have hp:(q:Int) = pt i:=congrArg Prod.fst h1
      have hs:J.sgF (fB c) q = sg i:=congrArg Prod.snd h1
      obtain ⟨_,hq,_⟩:=J.fw_some eq
      refine ⟨?_,fun j hj=>?_⟩
      · rw [h3,e,← hp,← hs]
        unfold stR
        rw [J.run_succ eq,chV_tab (run_big hT i (by omega)) (J.sgF_cases (fB c) q) (Nat.lt_of_lt_of_le (show q < 64 by omega) (by decide)) hn,upd_add]
      · by_cases hji:j = i
        · subst hji;exact ⟨q,eq,hp.symm,hs.symm⟩
        · exact ih j (by omega)
/-- The method ends: with weights or with a balance. -/
theorem some_end:(∃ xs,EndsAt n c xs) ∨ ∃ r,RepAt n c r:=by
  have hn:=hT.n5
  have hle:=hT.le
  have hs:=hT.size
  let P:Nat → Prop:=fun K=>J.fwx (fB c) n c.size (J.run (fB c) n c.size K) = none ∨ ∃ I,I < K ∧ J.run (fB c) n c.size I = J.run (fB c) n c.size K
  have hP:∃ K,K ≤ 1990 ∧ P K:=by
    rcases J.ends (fB c) hn with ⟨K,hK,h⟩ | ⟨I,K,hJ,hK,h⟩
    · exact ⟨K,hK,.inl (by rw [hs];exact h)⟩
    · exact ⟨K,hK,.inr ⟨I,hJ,by rw [hs];exact h⟩⟩
  obtain ⟨K,hK,hPK,hmin⟩:∃ K,K ≤ 1990 ∧ P K ∧ ∀ j,j < K → ¬ P j:=by
    obtain ⟨K,hK,h⟩:=hP
    induction K using Nat.strongRecOn with
    | ind K ih =>
      by_cases hx:∃ j,j < K ∧ P j
      · obtain ⟨j,hj,hpj⟩:=hx
        exact ih j hj (by omega) hpj
      · exact ⟨K,hK,h,fun j hj hp=>hx ⟨j,hj,hp⟩⟩
  have hnn:∀ j,j < K → J.fwx (fB c) n c.size (J.run (fB c) n c.size j) ≠ none:=fun j hj h=>hmin j hj (.inl h)
  have hinj:∀ i j,i < j → j < K → J.run (fB c) n c.size i ≠ J.run (fB c) n c.size j:=fun i j hij hj h=>hmin j hj (.inr ⟨i,hij,h⟩)
  rcases hPK with h | ⟨I,hJ,h⟩
  · exact .inl ⟨_,ends_at hT (by omega) hnn hinj h⟩
  · refine .inr ⟨_,stR c n,ptR c n,sgR c n,I,K,fB c,by omega,hJ,wg_of hT (by omega) hnn hinj,?_,fun i hi=>?_,fun i=>?_,fun i hi=>?_,rfl⟩
    · unfold stR;rw [h]
    · cases e:J.fwx (fB c) n c.size (J.run (fB c) n c.size i) with
      | none=>exact absurd e (hnn i hi)
      | some q =>
        obtain ⟨_,hq,_⟩:=J.fw_some e
        unfold ptR
        rw [e]
        show (q:Int) < 32
        omega
    · unfold sgR
      rcases J.sgF_cases (fB c) ((J.fwx (fB c) n c.size (J.run (fB c) n c.size i)).getD 0) with e | e <;> rw [e] <;> decide
    · unfold sgR ptR
      rw [Int.toNat_natCast]
      unfold J.sgF
      cases fB c ((J.fwx (fB c) n c.size (J.run (fB c) n c.size i)).getD 0) <;> decide
theorem take_rd {l:List Int} {k i:Nat} (h:i < k):rd (l.take k) (i:Int) = rd l (i:Int):=by
  unfold rd
  rw [List.getD_eq_getElem?_getD,List.getD_eq_getElem?_getD,Int.toNat_natCast,List.getElem?_take,if_pos h]
theorem wsum_take {l:List Int} {k:Nat} (p:Nat):∀ i,i ≤ k → wsum (l.take k) p i = wsum l p i
  | 0,_=>rfl
  | i + 1,h=>by rw [wsum,wsum,wsum_take p i (by omega),take_rd hT (by omega)]
/-- The weights at the end do. -/
theorem ends_good {xs:List Int} (h:EndsAt n c xs):(xs.take (n + 1)).length = n + 1 ∧ bad60 (xs.take (n + 1)) = false ∧ allF (okR c (xs.take (n + 1)) n) c.size 0 = true:=by
  have hn:=hT.n5
  have hle:=hT.le
  have hlen:=ends_len h
  obtain ⟨st,pt,sg,K,hK,hW,hend,-,rfl⟩:=h
  have he:=(det hT (by omega) hW K (Nat.le_refl _)).1
  rw [he] at hlen hend ⊢
  have hw:=st_wr hT K (by omega)
  rw [hend] at hw
  have hnone:J.fwx (fB c) n c.size (J.run (fB c) n c.size K) = none:=by
    cases eq:J.fwx (fB c) n c.size (J.run (fB c) n c.size K) with
    | none=>rfl
    | some q =>
      rw [eq] at hw
      have h4:(-1:Int) = (q:Int):=congrArg Prod.fst hw
      omega
  refine ⟨by rw [List.length_take];omega,?_,?_⟩
  · unfold bad60
    rw [List.any_eq_false]
    intro x hx
    obtain ⟨v,_,rfl⟩:=List.mem_map.1 (show x ∈ (List.range 6).map (J.run (fB c) n c.size K) from List.mem_of_mem_take hx)
    have:=run_bd (fB c) n c.size K v
    simp;omega
  · refine (allF_iff _ _ _).2 fun p _ hp=>?_
    have hp':p < c.size:=by omega
    have hr:=(J.fw_none.1 hnone) p (by omega) (by omega)
    have hd:=wsum_dot hn (J.run (fB c) n c.size K) p
    have h2:rd (stR c n K) (n:Int) = J.run (fB c) n c.size K n:=tabI_rd (by omega)
    unfold okR
    rw [wsum_take hT p n (by omega),take_rd hT (by omega),h2]
    unfold J.wrg J.vals at hr
    rw [← hd] at hr
    show (decide (wsum (tabI 6 (J.run (fB c) n c.size K)) p n ≥ J.run (fB c) n c.size K n) == fB c p) = true
    by_cases hf:fB c p = true
    · rw [if_pos hf] at hr
      have:=of_decide_eq_false hr
      rw [hf,decide_eq_true (by omega)];rfl
    · rw [if_neg hf] at hr
      have:=of_decide_eq_false hr
      rw [show fB c p = false by simpa using hf,decide_eq_false (by omega)];rfl
/-- The lists at a state that comes again are a balance. -/
theorem rep_good {r:List Int × List Int} (h:RepAt n c r):isBal c n [r.1,r.2] = true:=by
  have hn:=hT.n5
  have hle:=hT.le
  obtain ⟨st,pt,sg,I,K,σ,hK,hJ,hW,hrep,hpt,-,hσ,rfl⟩:=h
  have hd:=det hT (by omega) hW
  obtain ⟨m,hm⟩:∃ m,K - I = m:=⟨_,rfl⟩
  rw [hm]
  obtain ⟨ps,hps⟩:∃ ps,(seqI pt K).drop I = ps:=⟨_,rfl⟩
  rw [hps]
  have hq:∀ i,i < m → ∃ q:Nat,J.fwx (fB c) n c.size (J.run (fB c) n c.size (I + i)) = some q ∧ rd ps (i:Int) = (q:Int) ∧ q < c.size ∧ σ q = fB c q:=fun i hi=>by
    obtain ⟨q,h1,h2,h3⟩:=(hd K (Nat.le_refl _)).2 (I + i) (by omega)
    obtain ⟨_,hq,_⟩:=J.fw_some h1
    refine ⟨q,h1,by rw [← hps,seq_rd (by omega),h2],by omega,?_⟩
    have h4:=hσ (I + i) (by omega)
    rw [h2,h3,Int.toNat_natCast] at h4
    rw [← h4]
    unfold J.sgF
    cases fB c q <;> decide
  have hJK:J.run (fB c) n c.size I = J.run (fB c) n c.size K:=tab_inj hn (run_hi _ _ _ _) (run_hi _ _ _ _) (by
    have e1:=(hd I (by omega)).1
    have e2:=(hd K (by omega)).1
    rw [hrep,e2] at e1
    exact e1.symm)
  have htel:∀ v i,i ≤ m → J.run (fB c) n c.size (I + i) v = J.run (fB c) n c.size I v + sumQ (fun q=>rd (cntL ps i) (q:Int) * (J.sgF (fB c) q * J.aV n q v)) 32:=fun v i=>by
    induction i with
    | zero=>intro _;rw [sum_zero];simp
    | succ i ih =>
      intro hi
      obtain ⟨q,h1,h2,h3,_⟩:=hq i (by omega)
      rw [sum_step ps i h2 (by omega),← Int.add_assoc,← ih (by omega),← Nat.add_assoc,J.run_succ h1]
      rfl
  have hsumone:∀ i,i ≤ m → sumQ (fun q=>rd (cntL ps i) (q:Int) * 1) 32 = (i:Int):=fun i=>by
    induction i with
    | zero=>intro _;rw [sum_zero];rfl
    | succ i ih =>
      intro hi
      obtain ⟨q,h1,h2,h3,_⟩:=hq i (by omega)
      rw [sum_step ps i h2 (by omega),ih (by omega)];omega
  obtain ⟨g,hg⟩:∃ g,gcN (cntL ps m) 32 = g:=⟨_,rfl⟩
  have hmul:∀ q,q < 32 → ((repN (cntL ps m) g q:Nat):Int) * ((max g 1:Nat):Int) = rd (cntL ps m) (q:Int):=fun q hq=>by
    rw [← hg];exact rep_mul ps m hq
  rw [hg]
  have hσq:∀ q,q < 32 → repN (cntL ps m) g q ≠ 0 → σ q = fB c q ∧ q < c.size:=fun q hq32 hne=>by
    have h1:=hmul q hq32
    have h0:=cntL_bd ps m q
    have hpos:0 < rd (cntL ps m) (q:Int):=by
      rw [← h1]
      exact Int.mul_pos (by omega) (by omega)
    obtain ⟨j,hj,e⟩:=cntL_pos ps m q hpos
    obtain ⟨q',_,h2,h3,h4⟩:=hq j hj
    rw [h2,Int.toNat_natCast] at e
    subst e
    exact ⟨h4,h3⟩
  have hz:∀ v,sumQ (fun q=>(repN (cntL ps m) g q:Int) * ((if σ q = true then 1 else -1) * J.aV n q v)) 32 = 0:=fun v=>by
    have h1:=htel v m (Nat.le_refl _)
    rw [show I + m = K by omega,← hJK] at h1
    have h2:sumQ (fun q=>((repN (cntL ps m) g q:Int) * ((if σ q = true then 1 else -1) * J.aV n q v)) * ((max g 1:Nat):Int)) 32 = sumQ (fun q=>rd (cntL ps m) (q:Int) * (J.sgF (fB c) q * J.aV n q v)) 32:=sumQ_congr 32 fun q hq32=>by
      rw [← hmul q hq32]
      by_cases hne:repN (cntL ps m) g q = 0
      · rw [hne];simp
      · have e:=(hσq q hq32 hne).1
        rw [e]
        unfold J.sgF
        rw [Int.mul_assoc,Int.mul_comm _ ((max g 1:Nat):Int),← Int.mul_assoc]
    rw [sumQ_mul] at h2
    have h3:sumQ (fun q=>(repN (cntL ps m) g q:Int) * ((if σ q = true then 1 else -1) * J.aV n q v)) 32 * ((max g 1:Nat):Int) = 0:=by omega
    rcases Int.mul_eq_zero.1 h3 with h | h
    · exact h
    · omega
  have hsum:sumQ (fun q=>(repN (cntL ps m) g q:Int)) 32 * ((max g 1:Nat):Int) = (m:Int):=by
    rw [← sumQ_mul,← hsumone m (Nat.le_refl _)]
    exact sumQ_congr 32 fun q hq32=>by rw [hmul q hq32];omega
  obtain ⟨hl1,hl2⟩:=out_lens (cntL ps m) g σ 32
  have hnn:0 ≤ sumQ (fun q=>(repN (cntL ps m) g q:Int)) 32:=sumQ_nn (fun q=>by omega) 32
  have hbig:sumQ (fun q=>(repN (cntL ps m) g q:Int)) 32 ≤ (m:Int):=by
    rw [← hsum]
    have:=Int.mul_le_mul_of_nonneg_left (show (1:Int) ≤ ((max g 1:Nat):Int) by omega) hnn
    omega
  have hpos:sumQ (fun q=>(repN (cntL ps m) g q:Int)) 32 ≠ 0:=fun e=>by
    rw [e] at hsum;omega
  have heq:sumQ (fun q=>(repN (cntL ps m) g q:Int) * (if σ q = true then 1 else -1)) 32 = 0:=by
    have h1:=hz n
    have h2:sumQ (fun q=>(repN (cntL ps m) g q:Int) * ((if σ q = true then 1 else -1) * J.aV n q n)) 32 = sumQ (fun q=>((repN (cntL ps m) g q:Int) * (if σ q = true then 1 else -1)) * (-1)) 32:=sumQ_congr 32 fun q _=>by
      unfold J.aV
      rw [if_pos rfl,Int.mul_assoc]
    rw [h1,sumQ_mul] at h2
    omega
  have hlens:lensB [outL (cntL ps m) g σ true 32,outL (cntL ps m) g σ false 32]:=by
    refine ⟨rfl,?_,?_,?_⟩
    · show (outL (cntL ps m) g σ true 32).length = (outL (cntL ps m) g σ false 32).length
      omega
    · show 1 ≤ (outL (cntL ps m) g σ true 32).length
      omega
    · show (outL (cntL ps m) g σ true 32).length ≤ 1000
      omega
  unfold isBal
  rw [decide_eq_true hlens,Bool.true_and]
  have a0:(outL (cntL ps m) g σ true 32).all (okPt c 0) = true:=List.all_eq_true.2 fun p hp=>by
    obtain ⟨q,h1,rfl,h2,h3⟩:=out_mem hp
    obtain ⟨h4,h5⟩:=hσq q h1 h3
    rw [h2] at h4
    have h49:bt c (q:Int) = 49:=by
      have:(bt c (q:Int) == 49) = true:=h4.symm
      simpa using this
    exact decide_eq_true ⟨⟨by omega,by omega⟩,by rw [h49];rfl⟩
  have a1:(outL (cntL ps m) g σ false 32).all (okPt c 1) = true:=List.all_eq_true.2 fun p hp=>by
    obtain ⟨q,h1,rfl,h2,h3⟩:=out_mem hp
    obtain ⟨h4,h5⟩:=hσq q h1 h3
    rw [h2] at h4
    have h48:bt c (q:Int) = 48:=by
      have:(bt c (q:Int) == 49) = false:=h4.symm
      have hne:bt c (q:Int) ≠ 49:=by simpa using this
      have:=hT.val q h5
      omega
    exact decide_eq_true ⟨⟨by omega,by omega⟩,by rw [h48];rfl⟩
  show ((outL (cntL ps m) g σ true 32).all (okPt c 0) && ((outL (cntL ps m) g σ false 32).all (okPt c 1) && sameB n (outL (cntL ps m) g σ true 32) (outL (cntL ps m) g σ false 32))) = true
  rw [a0,a1,Bool.true_and,Bool.true_and]
  unfold sameB
  refine (allF_iff _ _ _).2 fun v _ hv=>decide_eq_true ?_
  rw [out_cnt]
  have h1:=hz v
  rw [← h1]
  refine sumQ_congr 32 fun q _=>?_
  have e:J.aV n q v = bI q v:=by unfold J.aV;rw [if_neg (by omega),if_pos (by omega),jbI]
  rw [e]
end
end Go.Proofs.Ythpahlkhiknofaa.P
set_option linter.unusedSectionVars false
namespace Go.Proofs.Ythpahlkhiknofaa.P
open Go Go.RowKit Go.Proofs.Ythpahlkhiknofaa.M Go.Proofs.Ythpahlkhiknofaa.G Go.Proofs.Ythpahlkhiknofaa.H
open Go.Proofs.YthpahlkhiknofaaW.PrintWords Go.Proofs.YthpahlkhiknofaaW.PrintMore
theorem fitL_of {α:Type} {l:List α} (h:l.length ≤ 100000):fitL l:=by unfold fitL;omega
theorem realize_f {c:ByteArray} (hc:c.size ≤ 40) {l:List Int} (hl:l.length ≤ 1001):card_Realize.f c l = some (if totB c = true then (if l.length = fnN c + 1 ∧ bad60 l = false then (if allF (okR c l (fnN c)) c.size 0 = true then 0 else 10) else 2) else 2):=by
 obtain ⟨m,hm,e⟩:=newT hc
 unfold card_Realize.f
 rw [e,Option.bind_some]
 by_cases h:totB c = true
 ·have hT:=tot_of hc h
  have:=hm h
  subst this
  have h5:=hT.n5
  rw [if_pos ⟨⟨rfl,by show c.size ≤ 1000;omega,fun _=>⟨by show (0:Int) ≤ (fnN c:Int);omega,by show (fnN c:Int) ≤ 5;omega⟩⟩,fitL_of (by omega)⟩,if_pos h]
  congr 1
  show rzV c l ((fnN c:Int)).toNat (totB c) = _
  rw [Int.toNat_natCast,h]
  unfold rzV
  by_cases hg:l.length = fnN c + 1 ∧ bad60 l = false
  ·have hs:=bad_sm hg.2
   have hp:=pad_rd (l:=l) (by omega)
   rw [if_pos ⟨rfl,hg⟩,if_pos hg,rzL_eq h5 hc (B:=1000000) (by decide) (by decide) (fun i hi=>by rw [hp i];exact hs i hi) c.size 0 (by omega)]
   have:allF (okR c (padL l) (fnN c)) c.size 0 = allF (okR c l (fnN c)) c.size 0:=allF_congr fun p _ _=>by
    unfold okR
    rw [wsum_congr hp,hp]
   rw [this]
  ·rw [if_neg (fun h=>hg h.2),if_neg hg]
 ·have h':totB c = false:=by simpa using h
  rw [if_pos ⟨⟨rfl,by show c.size ≤ 1000;omega,fun h2=>absurd h2 h⟩,fitL_of (by omega)⟩,if_neg h]
  congr 1
  show rzV c l m.toNat (totB c) = 2
  rw [h']
  unfold rzV
  rw [if_neg (fun h=>by cases h.1)]
theorem balance_f {c:ByteArray} (hc:c.size ≤ 40) {ls:List (List Int)} (hl:ls.length ≤ 3):card_Balance.f c ls = some (if totB c = true then (if isBal c (fnN c) ls = true then 0 else 10) else 2):=by
 obtain ⟨m,hm,e⟩:=newT hc
 unfold card_Balance.f
 rw [e,Option.bind_some]
 by_cases h:totB c = true
 ·have hT:=tot_of hc h
  have:=hm h
  subst this
  have h5:=hT.n5
  rw [if_pos ⟨⟨rfl,by show c.size ≤ 1000;omega,fun _=>⟨by show (0:Int) ≤ (fnN c:Int);omega,by show (fnN c:Int) ≤ 5;omega⟩⟩,fitL_of (by omega)⟩,if_pos h]
  congr 1
  show balV c ls ((fnN c:Int)).toNat (totB c) = _
  rw [Int.toNat_natCast,h,balV_eq hc h5]
 ·have h':totB c = false:=by simpa using h
  rw [if_pos ⟨⟨rfl,by show c.size ≤ 1000;omega,fun h2=>absurd h2 h⟩,fitL_of (by omega)⟩,if_neg h]
  congr 1
  show balV c ls m.toNat (totB c) = 2
  rw [h'];rfl
end Go.Proofs.Ythpahlkhiknofaa.P
namespace Go.Proofs.Ythpahlkhiknofaa.G
open Go.RowKit Go.Proofs.YthpahlkhiknofaaW.PrintWords Go.Proofs.YthpahlkhiknofaaW.PrintLast Go.Proofs.YthpahlkhiknofaaW.PrintMore
set_option maxHeartbeats 8000000
set_option maxRecDepth 100000
attribute [local go_sem] max2_int min2_int max_two min_two max_three min_three max_four min_four   -- for this text's walks alone
noncomputable def numnahlaw01_CardWeights.f (k:Nat) (a0:ByteArray):Option (Bool):=(numnahlaw01_short.f a0).bind fun t381=>((card_Weights.f t381).bind fun bt382=>((numnahref01_Total.f k t381).bind fun t389=>(if t389 = true then (if bt382.2.2 = 0 then (if (bt382.2.1.length:Int) = 0 then ((numnahref01_Vars.f k t381).bind fun t391=>((numnahref01_Weights.f k bt382.1 t391).bind fun t392=>(if t392 = true then ((numnahref01_Realize.f k t381 bt382.1).bind fun t393=>(if t393 = true then ((card_Realize.f t381 bt382.1).bind fun t394=>(if t394 = 0 then ((numnahlaw01_awake.f).bind fun t395=>(some t395)) else (some false))) else (some false))) else (some false)))) else (if (bt382.1.length:Int) = 0 then ((numnahref01_Balance.f k t381 bt382.2.1).bind fun t396=>(if t396 = true then ((card_Balance.f t381 bt382.2.1).bind fun t397=>(if t397 = 0 then ((numnahlaw01_awake.f).bind fun t398=>(some t398)) else (some false))) else (some false))) else (some false))) else (some false)) else (if (bt382.1.length:Int) = 0 then (if (bt382.2.1.length:Int) = 0 then (if bt382.2.2 = 2 then ((numnahlaw01_awake.f).bind fun t390=>(some t390)) else (some false)) else (some false)) else (some false)))))
theorem numnahlaw01_CardWeights.mono:∀ a0 k,LeO (numnahlaw01_CardWeights.f k a0) (numnahlaw01_CardWeights.f (k + 1) a0):=by
 intro a0 k
 unfold numnahlaw01_CardWeights.f
 repeat' first
   | (with_reducible exact numnahref01_Balance.mono _ _ _)
   | (with_reducible exact numnahref01_Realize.mono _ _ _)
   | (with_reducible exact numnahref01_Total.mono _ _)
   | (with_reducible exact numnahref01_Vars.mono _ _)
   | (with_reducible exact numnahref01_Weights.mono _ _ _)
   | (with_reducible exact LeO.refl _)
   | (with_reducible exact LeO.none _)
   | (with_reducible refine LeO.ite ?_ ?_)
   | (with_reducible refine LeO.bind ?_ (fun _=>?_))
   | exact numnahref01_Balance.mono _ _ _
   | exact numnahref01_Realize.mono _ _ _
   | exact numnahref01_Total.mono _ _
   | exact numnahref01_Vars.mono _ _
   | exact numnahref01_Weights.mono _ _ _
   | exact LeO.none _
   | refine LeO.ite ?_ ?_
   | refine LeO.bind ?_ (fun _=>?_)
theorem numnahlaw01_CardWeights.calls (k:Nat) (a0:ByteArray) (r:Bool) (w:World) (h:numnahlaw01_CardWeights.f k a0 = some r) :
  Calls Try.prog 8 #[.string a0] w fun e w'=>e = .returned (.bool r) ∧ Below w.heap.size w w':=by
 have HB:=Aside0.mk (Below.refl w.heap.size w)
 have H:((numnahlaw01_short.f a0).bind fun t381=>((card_Weights.f t381).bind fun bt382=>((numnahref01_Total.f k t381).bind fun t389=>(if t389 = true then (if bt382.2.2 = 0 then (if (bt382.2.1.length:Int) = 0 then ((numnahref01_Vars.f k t381).bind fun t391=>((numnahref01_Weights.f k bt382.1 t391).bind fun t392=>(if t392 = true then ((numnahref01_Realize.f k t381 bt382.1).bind fun t393=>(if t393 = true then ((card_Realize.f t381 bt382.1).bind fun t394=>(if t394 = 0 then ((numnahlaw01_awake.f).bind fun t395=>(some t395)) else (some false))) else (some false))) else (some false)))) else (if (bt382.1.length:Int) = 0 then ((numnahref01_Balance.f k t381 bt382.2.1).bind fun t396=>(if t396 = true then ((card_Balance.f t381 bt382.2.1).bind fun t397=>(if t397 = 0 then ((numnahlaw01_awake.f).bind fun t398=>(some t398)) else (some false))) else (some false))) else (some false))) else (some false)) else (if (bt382.1.length:Int) = 0 then (if (bt382.2.1.length:Int) = 0 then (if bt382.2.2 = 2 then ((numnahlaw01_awake.f).bind fun t390=>(some t390)) else (some false)) else (some false)) else (some false)))))) = some r:=h
 clear h
 replace H:=Option.bind_eq_some_iff.mp H
 obtain ⟨t381,A20,H⟩:=H
 replace H:((card_Weights.f t381).bind fun bt382=>((numnahref01_Total.f k t381).bind fun t389=>(if t389 = true then (if bt382.2.2 = 0 then (if (bt382.2.1.length:Int) = 0 then ((numnahref01_Vars.f k t381).bind fun t391=>((numnahref01_Weights.f k bt382.1 t391).bind fun t392=>(if t392 = true then ((numnahref01_Realize.f k t381 bt382.1).bind fun t393=>(if t393 = true then ((card_Realize.f t381 bt382.1).bind fun t394=>(if t394 = 0 then ((numnahlaw01_awake.f).bind fun t395=>(some t395)) else (some false))) else (some false))) else (some false)))) else (if (bt382.1.length:Int) = 0 then ((numnahref01_Balance.f k t381 bt382.2.1).bind fun t396=>(if t396 = true then ((card_Balance.f t381 bt382.2.1).bind fun t397=>(if t397 = 0 then ((numnahlaw01_awake.f).bind fun t398=>(some t398)) else (some false))) else (some false))) else (some false))) else (some false)) else (if (bt382.1.length:Int) = 0 then (if (bt382.2.1.length:Int) = 0 then (if bt382.2.2 = 2 then ((numnahlaw01_awake.f).bind fun t390=>(some t390)) else (some false)) else (some false)) else (some false))))) = some r:=H
 have A2:=Aside0.mk A20
 clear A20
 replace H:=Option.bind_eq_some_iff.mp H
 obtain ⟨⟨t382,t383,t384⟩,A30,H⟩:=H
 replace H:((numnahref01_Total.f k t381).bind fun t389=>(if t389 = true then (if t384 = 0 then (if (t383.length:Int) = 0 then ((numnahref01_Vars.f k t381).bind fun t391=>((numnahref01_Weights.f k t382 t391).bind fun t392=>(if t392 = true then ((numnahref01_Realize.f k t381 t382).bind fun t393=>(if t393 = true then ((card_Realize.f t381 t382).bind fun t394=>(if t394 = 0 then ((numnahlaw01_awake.f).bind fun t395=>(some t395)) else (some false))) else (some false))) else (some false)))) else (if (t382.length:Int) = 0 then ((numnahref01_Balance.f k t381 t383).bind fun t396=>(if t396 = true then ((card_Balance.f t381 t383).bind fun t397=>(if t397 = 0 then ((numnahlaw01_awake.f).bind fun t398=>(some t398)) else (some false))) else (some false))) else (some false))) else (some false)) else (if (t382.length:Int) = 0 then (if (t383.length:Int) = 0 then (if t384 = 2 then ((numnahlaw01_awake.f).bind fun t390=>(some t390)) else (some false)) else (some false)) else (some false)))) = some r:=H
 have A3:=Aside0.mk A30
 clear A30
 replace H:=Option.bind_eq_some_iff.mp H
 obtain ⟨t389,A40,H⟩:=H
 replace H:(if t389 = true then (if t384 = 0 then (if (t383.length:Int) = 0 then ((numnahref01_Vars.f k t381).bind fun t391=>((numnahref01_Weights.f k t382 t391).bind fun t392=>(if t392 = true then ((numnahref01_Realize.f k t381 t382).bind fun t393=>(if t393 = true then ((card_Realize.f t381 t382).bind fun t394=>(if t394 = 0 then ((numnahlaw01_awake.f).bind fun t395=>(some t395)) else (some false))) else (some false))) else (some false)))) else (if (t382.length:Int) = 0 then ((numnahref01_Balance.f k t381 t383).bind fun t396=>(if t396 = true then ((card_Balance.f t381 t383).bind fun t397=>(if t397 = 0 then ((numnahlaw01_awake.f).bind fun t398=>(some t398)) else (some false))) else (some false))) else (some false))) else (some false)) else (if (t382.length:Int) = 0 then (if (t383.length:Int) = 0 then (if t384 = 2 then ((numnahlaw01_awake.f).bind fun t390=>(some t390)) else (some false)) else (some false)) else (some false))) = some r:=H
 have A4:=Aside0.mk A40
 clear A40
 by_cases c5:t389 = true
 case neg =>
  replace c5:=Bool.eq_false_iff.mpr c5
  subst c5
  have H1:(if (t382.length:Int) = 0 then (if (t383.length:Int) = 0 then (if t384 = 2 then ((numnahlaw01_awake.f).bind fun t390=>(some t390)) else (some false)) else (some false)) else (some false)) = some r:=by rw [if_neg (show ¬ (false = true) by decide)] at H;exact H
  clear H
  have H:=H1
  clear H1
  by_cases c65:(t382.length:Int) = 0
  case neg =>
   rw [if_neg c65] at H
   have c65b0:((t382.length:Int) == 0) = false:=beq_eq_false_iff_ne.mpr c65
   have c65b1:((t382.length:Int) != 0) = true:=bne_iff_ne.mpr c65
   have c65b2:¬ (t382 = []):=fun h_=>c65 (by rw [h_];rfl)
   obtain rfl:=Option.some.inj H
   go_enter Try.func8,Try.ntmps8
   go_wp2_with (first | ((with_reducible refine gate_callee (f:=16) rfl ?_);refine goesL_ (some 8) rfl rfl Try.func16 (by kernel_rfl) rfl #[.string a0] rfl (by (try simp only [List.map_toArray,List.map_cons,List.map_nil]);first | done | rfl | (simp only [List.length_drop,List.length_take];rfl)) ?_;(with_reducible refine (numnahlaw01_short.calls a0 t381 _ A2.out).mono ?_);rintro e w82 ⟨rfl,hb⟩;refine ⟨_,rfl,?_⟩;have n0_:=Aside0.mk (below_step (by repeat (first | (with_reducible first | exact HB.out | apply below_alloc | apply pw_below_drewN | apply below_drew1) | exact HB.out)) hb);clear HB;have HB:=n0_;clear n0_;(try clear hb)) | ((with_reducible refine gate_callee (f:=44) rfl ?_);refine goesL_ (some 11) rfl rfl Try.func44 (by kernel_rfl) rfl #[.string t381] rfl (by (try simp only [List.map_toArray,List.map_cons,List.map_nil]);first | done | rfl | (simp only [List.length_drop,List.length_take];rfl)) ?_;(with_reducible refine (card_Weights.calls t381 t382 t383 t384 _ A3.out).mono ?_);rintro e w83 ⟨v385,v387,rfl,ho0,ho1,hb⟩;refine ⟨_,rfl,?_⟩;have n0_:=Aside0.mk (Kd.R_lower ho0 (below_size (by repeat (first | (with_reducible first | exact HB.out | apply below_alloc | apply pw_below_drewN | apply below_drew1) | exact HB.out))));have n1_:=Aside0.mk (Kd.S_lower ho1 (below_size (by repeat (first | (with_reducible first | exact HB.out | apply below_alloc | apply pw_below_drewN | apply below_drew1) | exact HB.out))));have n2_:=Aside0.mk (below_step (by repeat (first | (with_reducible first | exact HB.out | apply below_alloc | apply pw_below_drewN | apply below_drew1) | exact HB.out)) hb);clear HB;have HO386:=n0_;have HO388:=n1_;have HB:=n2_;clear n0_ n1_ n2_;(try clear hb);(try clear ho0);(try clear ho1)) | ((with_reducible refine gate_callee (f:=21) rfl ?_);refine goesL_ (some 16) rfl rfl Try.func21 (by kernel_rfl) rfl #[.string t381] rfl (by (try simp only [List.map_toArray,List.map_cons,List.map_nil]);first | done | rfl | (simp only [List.length_drop,List.length_take];rfl)) ?_;(with_reducible refine (numnahref01_Total.calls k t381 false _ A4.out).mono ?_);rintro e w' ⟨rfl,⟨nd,rfl⟩⟩;refine ⟨_,rfl,?_⟩;obtain ⟨Ao84,co84,eo84⟩:=Kd.R_slice HO386.out;subst eo84))
   go_ret
   exact ⟨by first | rfl | (simp [errW_none,errW_some] <;> rfl) | (simp [*,errW_none,errW_some] <;> rfl),by repeat (first | (with_reducible first | exact HB.out | apply below_alloc | apply pw_below_drewN | apply below_drew1) | exact HB.out)⟩
  rw [if_pos c65] at H
  have c65b0:((t382.length:Int) == 0) = true:=beq_iff_eq.mpr c65
  have c65b1:((t382.length:Int) != 0) = false:=bne_eq_false_iff_eq.mpr c65
  clear c65
  by_cases c66:(t383.length:Int) = 0
  case neg =>
   rw [if_neg c66] at H
   have c66b0:((t383.length:Int) == 0) = false:=beq_eq_false_iff_ne.mpr c66
   have c66b1:((t383.length:Int) != 0) = true:=bne_iff_ne.mpr c66
   have c66b2:¬ (t383 = []):=fun h_=>c66 (by rw [h_];rfl)
   obtain rfl:=Option.some.inj H
   go_enter Try.func8,Try.ntmps8
   go_wp2_with (first | ((with_reducible refine gate_callee (f:=16) rfl ?_);refine goesL_ (some 8) rfl rfl Try.func16 (by kernel_rfl) rfl #[.string a0] rfl (by (try simp only [List.map_toArray,List.map_cons,List.map_nil]);first | done | rfl | (simp only [List.length_drop,List.length_take];rfl)) ?_;(with_reducible refine (numnahlaw01_short.calls a0 t381 _ A2.out).mono ?_);rintro e w78 ⟨rfl,hb⟩;refine ⟨_,rfl,?_⟩;have n0_:=Aside0.mk (below_step (by repeat (first | (with_reducible first | exact HB.out | apply below_alloc | apply pw_below_drewN | apply below_drew1) | exact HB.out)) hb);clear HB;have HB:=n0_;clear n0_;(try clear hb)) | ((with_reducible refine gate_callee (f:=44) rfl ?_);refine goesL_ (some 11) rfl rfl Try.func44 (by kernel_rfl) rfl #[.string t381] rfl (by (try simp only [List.map_toArray,List.map_cons,List.map_nil]);first | done | rfl | (simp only [List.length_drop,List.length_take];rfl)) ?_;(with_reducible refine (card_Weights.calls t381 t382 t383 t384 _ A3.out).mono ?_);rintro e w79 ⟨v385,v387,rfl,ho0,ho1,hb⟩;refine ⟨_,rfl,?_⟩;have n0_:=Aside0.mk (Kd.R_lower ho0 (below_size (by repeat (first | (with_reducible first | exact HB.out | apply below_alloc | apply pw_below_drewN | apply below_drew1) | exact HB.out))));have n1_:=Aside0.mk (Kd.S_lower ho1 (below_size (by repeat (first | (with_reducible first | exact HB.out | apply below_alloc | apply pw_below_drewN | apply below_drew1) | exact HB.out))));have n2_:=Aside0.mk (below_step (by repeat (first | (with_reducible first | exact HB.out | apply below_alloc | apply pw_below_drewN | apply below_drew1) | exact HB.out)) hb);clear HB;have HO386:=n0_;have HO388:=n1_;have HB:=n2_;clear n0_ n1_ n2_;(try clear hb);(try clear ho0);(try clear ho1)) | ((with_reducible refine gate_callee (f:=21) rfl ?_);refine goesL_ (some 16) rfl rfl Try.func21 (by kernel_rfl) rfl #[.string t381] rfl (by (try simp only [List.map_toArray,List.map_cons,List.map_nil]);first | done | rfl | (simp only [List.length_drop,List.length_take];rfl)) ?_;(with_reducible refine (numnahref01_Total.calls k t381 false _ A4.out).mono ?_);rintro e w' ⟨rfl,⟨nd,rfl⟩⟩;refine ⟨_,rfl,?_⟩;obtain ⟨Ao80,co80,eo80⟩:=Kd.R_slice HO386.out;subst eo80;obtain ⟨Ao81,co81,eo81⟩:=Kd.S_slice HO388.out;subst eo81))
   go_ret
   exact ⟨by first | rfl | (simp [errW_none,errW_some] <;> rfl) | (simp [*,errW_none,errW_some] <;> rfl),by repeat (first | (with_reducible first | exact HB.out | apply below_alloc | apply pw_below_drewN | apply below_drew1) | exact HB.out)⟩
  rw [if_pos c66] at H
  have c66b0:((t383.length:Int) == 0) = true:=beq_iff_eq.mpr c66
  have c66b1:((t383.length:Int) != 0) = false:=bne_eq_false_iff_eq.mpr c66
  clear c66
  by_cases c67:t384 = 2
  case neg =>
   rw [if_neg c67] at H
   have c67b0:(t384 == 2) = false:=beq_eq_false_iff_ne.mpr c67
   have c67b1:(t384 != 2) = true:=bne_iff_ne.mpr c67
   obtain rfl:=Option.some.inj H
   go_enter Try.func8,Try.ntmps8
   go_wp2_with (first | ((with_reducible refine gate_callee (f:=16) rfl ?_);refine goesL_ (some 8) rfl rfl Try.func16 (by kernel_rfl) rfl #[.string a0] rfl (by (try simp only [List.map_toArray,List.map_cons,List.map_nil]);first | done | rfl | (simp only [List.length_drop,List.length_take];rfl)) ?_;(with_reducible refine (numnahlaw01_short.calls a0 t381 _ A2.out).mono ?_);rintro e w74 ⟨rfl,hb⟩;refine ⟨_,rfl,?_⟩;have n0_:=Aside0.mk (below_step (by repeat (first | (with_reducible first | exact HB.out | apply below_alloc | apply pw_below_drewN | apply below_drew1) | exact HB.out)) hb);clear HB;have HB:=n0_;clear n0_;(try clear hb)) | ((with_reducible refine gate_callee (f:=44) rfl ?_);refine goesL_ (some 11) rfl rfl Try.func44 (by kernel_rfl) rfl #[.string t381] rfl (by (try simp only [List.map_toArray,List.map_cons,List.map_nil]);first | done | rfl | (simp only [List.length_drop,List.length_take];rfl)) ?_;(with_reducible refine (card_Weights.calls t381 t382 t383 t384 _ A3.out).mono ?_);rintro e w75 ⟨v385,v387,rfl,ho0,ho1,hb⟩;refine ⟨_,rfl,?_⟩;have n0_:=Aside0.mk (Kd.R_lower ho0 (below_size (by repeat (first | (with_reducible first | exact HB.out | apply below_alloc | apply pw_below_drewN | apply below_drew1) | exact HB.out))));have n1_:=Aside0.mk (Kd.S_lower ho1 (below_size (by repeat (first | (with_reducible first | exact HB.out | apply below_alloc | apply pw_below_drewN | apply below_drew1) | exact HB.out))));have n2_:=Aside0.mk (below_step (by repeat (first | (with_reducible first | exact HB.out | apply below_alloc | apply pw_below_drewN | apply below_drew1) | exact HB.out)) hb);clear HB;have HO386:=n0_;have HO388:=n1_;have HB:=n2_;clear n0_ n1_ n2_;(try clear hb);(try clear ho0);(try clear ho1)) | ((with_reducible refine gate_callee (f:=21) rfl ?_);refine goesL_ (some 16) rfl rfl Try.func21 (by kernel_rfl) rfl #[.string t381] rfl (by (try simp only [List.map_toArray,List.map_cons,List.map_nil]);first | done | rfl | (simp only [List.length_drop,List.length_take];rfl)) ?_;(with_reducible refine (numnahref01_Total.calls k t381 false _ A4.out).mono ?_);rintro e w' ⟨rfl,⟨nd,rfl⟩⟩;refine ⟨_,rfl,?_⟩;obtain ⟨Ao76,co76,eo76⟩:=Kd.R_slice HO386.out;subst eo76;obtain ⟨Ao77,co77,eo77⟩:=Kd.S_slice HO388.out;subst eo77))
   go_ret
   exact ⟨by first | rfl | (simp [errW_none,errW_some] <;> rfl) | (simp [*,errW_none,errW_some] <;> rfl),by repeat (first | (with_reducible first | exact HB.out | apply below_alloc | apply pw_below_drewN | apply below_drew1) | exact HB.out)⟩
  rw [if_pos c67] at H
  have c67b0:(t384 == 2) = true:=beq_iff_eq.mpr c67
  have c67b1:(t384 != 2) = false:=bne_eq_false_iff_eq.mpr c67
  clear c67
  replace H:=Option.bind_eq_some_iff.mp H
  obtain ⟨t390,A680,H⟩:=H
  replace H:(some t390) = some r:=H
  have A68:=Aside0.mk A680
  clear A680
  obtain rfl:=Option.some.inj H
  go_enter Try.func8,Try.ntmps8
  go_wp2_with (first | ((with_reducible refine gate_callee (f:=16) rfl ?_);refine goesL_ (some 8) rfl rfl Try.func16 (by kernel_rfl) rfl #[.string a0] rfl (by (try simp only [List.map_toArray,List.map_cons,List.map_nil]);first | done | rfl | (simp only [List.length_drop,List.length_take];rfl)) ?_;(with_reducible refine (numnahlaw01_short.calls a0 t381 _ A2.out).mono ?_);rintro e w69 ⟨rfl,hb⟩;refine ⟨_,rfl,?_⟩;have n0_:=Aside0.mk (below_step (by repeat (first | (with_reducible first | exact HB.out | apply below_alloc | apply pw_below_drewN | apply below_drew1) | exact HB.out)) hb);clear HB;have HB:=n0_;clear n0_;(try clear hb)) | ((with_reducible refine gate_callee (f:=44) rfl ?_);refine goesL_ (some 11) rfl rfl Try.func44 (by kernel_rfl) rfl #[.string t381] rfl (by (try simp only [List.map_toArray,List.map_cons,List.map_nil]);first | done | rfl | (simp only [List.length_drop,List.length_take];rfl)) ?_;(with_reducible refine (card_Weights.calls t381 t382 t383 t384 _ A3.out).mono ?_);rintro e w70 ⟨v385,v387,rfl,ho0,ho1,hb⟩;refine ⟨_,rfl,?_⟩;have n0_:=Aside0.mk (Kd.R_lower ho0 (below_size (by repeat (first | (with_reducible first | exact HB.out | apply below_alloc | apply pw_below_drewN | apply below_drew1) | exact HB.out))));have n1_:=Aside0.mk (Kd.S_lower ho1 (below_size (by repeat (first | (with_reducible first | exact HB.out | apply below_alloc | apply pw_below_drewN | apply below_drew1) | exact HB.out))));have n2_:=Aside0.mk (below_step (by repeat (first | (with_reducible first | exact HB.out | apply below_alloc | apply pw_below_drewN | apply below_drew1) | exact HB.out)) hb);clear HB;have HO386:=n0_;have HO388:=n1_;have HB:=n2_;clear n0_ n1_ n2_;(try clear hb);(try clear ho0);(try clear ho1)) | ((with_reducible refine gate_callee (f:=21) rfl ?_);refine goesL_ (some 16) rfl rfl Try.func21 (by kernel_rfl) rfl #[.string t381] rfl (by (try simp only [List.map_toArray,List.map_cons,List.map_nil]);first | done | rfl | (simp only [List.length_drop,List.length_take];rfl)) ?_;(with_reducible refine (numnahref01_Total.calls k t381 false _ A4.out).mono ?_);rintro e w' ⟨rfl,⟨nd,rfl⟩⟩;refine ⟨_,rfl,?_⟩;obtain ⟨Ao71,co71,eo71⟩:=Kd.R_slice HO386.out;subst eo71;obtain ⟨Ao72,co72,eo72⟩:=Kd.S_slice HO388.out;subst eo72) | (go_at_call 22;(with_reducible refine (numnahlaw01_awake.calls  t390 _ A68.out).mono ?_);rintro e w73 ⟨rfl,hb⟩;have n0_:=Aside0.mk (Kd.R_below (by (with_reducible repeat (first | apply Kd.R_alloc | apply Kd.R_drewN | apply Kd.R_drew));exact HO386.out) hb);have n1_:=Aside0.mk (Kd.S_below (by (with_reducible repeat (first | apply Kd.S_alloc | apply Kd.S_drewN | apply Kd.S_drew));exact HO388.out) hb);have n2_:=Aside0.mk (below_step (by repeat (first | (with_reducible first | exact HB.out | apply below_alloc | apply pw_below_drewN | apply below_drew1) | exact HB.out)) hb);clear HO386;clear HO388;clear HB;have HO386:=n0_;have HO388:=n1_;have HB:=n2_;clear n0_ n1_ n2_;(try clear hb)))
  go_ret
  exact ⟨by first | rfl | (simp [errW_none,errW_some] <;> rfl) | (simp [*,errW_none,errW_some] <;> rfl),by repeat (first | (with_reducible first | exact HB.out | apply below_alloc | apply pw_below_drewN | apply below_drew1) | exact HB.out)⟩
 subst c5
 have H1:(if t384 = 0 then (if (t383.length:Int) = 0 then ((numnahref01_Vars.f k t381).bind fun t391=>((numnahref01_Weights.f k t382 t391).bind fun t392=>(if t392 = true then ((numnahref01_Realize.f k t381 t382).bind fun t393=>(if t393 = true then ((card_Realize.f t381 t382).bind fun t394=>(if t394 = 0 then ((numnahlaw01_awake.f).bind fun t395=>(some t395)) else (some false))) else (some false))) else (some false)))) else (if (t382.length:Int) = 0 then ((numnahref01_Balance.f k t381 t383).bind fun t396=>(if t396 = true then ((card_Balance.f t381 t383).bind fun t397=>(if t397 = 0 then ((numnahlaw01_awake.f).bind fun t398=>(some t398)) else (some false))) else (some false))) else (some false))) else (some false)) = some r:=by rw [if_pos rfl] at H;exact H
 clear H
 have H:=H1
 clear H1
 by_cases c6:t384 = 0
 case neg =>
  rw [if_neg c6] at H
  have c6b0:(t384 == 0) = false:=beq_eq_false_iff_ne.mpr c6
  have c6b1:(t384 != 0) = true:=bne_iff_ne.mpr c6
  obtain rfl:=Option.some.inj H
  go_enter Try.func8,Try.ntmps8
  go_wp2_with (first | ((with_reducible refine gate_callee (f:=16) rfl ?_);refine goesL_ (some 8) rfl rfl Try.func16 (by kernel_rfl) rfl #[.string a0] rfl (by (try simp only [List.map_toArray,List.map_cons,List.map_nil]);first | done | rfl | (simp only [List.length_drop,List.length_take];rfl)) ?_;(with_reducible refine (numnahlaw01_short.calls a0 t381 _ A2.out).mono ?_);rintro e w63 ⟨rfl,hb⟩;refine ⟨_,rfl,?_⟩;have n0_:=Aside0.mk (below_step (by repeat (first | (with_reducible first | exact HB.out | apply below_alloc | apply pw_below_drewN | apply below_drew1) | exact HB.out)) hb);clear HB;have HB:=n0_;clear n0_;(try clear hb)) | ((with_reducible refine gate_callee (f:=44) rfl ?_);refine goesL_ (some 11) rfl rfl Try.func44 (by kernel_rfl) rfl #[.string t381] rfl (by (try simp only [List.map_toArray,List.map_cons,List.map_nil]);first | done | rfl | (simp only [List.length_drop,List.length_take];rfl)) ?_;(with_reducible refine (card_Weights.calls t381 t382 t383 t384 _ A3.out).mono ?_);rintro e w64 ⟨v385,v387,rfl,ho0,ho1,hb⟩;refine ⟨_,rfl,?_⟩;have n0_:=Aside0.mk (Kd.R_lower ho0 (below_size (by repeat (first | (with_reducible first | exact HB.out | apply below_alloc | apply pw_below_drewN | apply below_drew1) | exact HB.out))));have n1_:=Aside0.mk (Kd.S_lower ho1 (below_size (by repeat (first | (with_reducible first | exact HB.out | apply below_alloc | apply pw_below_drewN | apply below_drew1) | exact HB.out))));have n2_:=Aside0.mk (below_step (by repeat (first | (with_reducible first | exact HB.out | apply below_alloc | apply pw_below_drewN | apply below_drew1) | exact HB.out)) hb);clear HB;have HO386:=n0_;have HO388:=n1_;have HB:=n2_;clear n0_ n1_ n2_;(try clear hb);(try clear ho0);(try clear ho1)) | ((with_reducible refine gate_callee (f:=21) rfl ?_);refine goesL_ (some 16) rfl rfl Try.func21 (by kernel_rfl) rfl #[.string t381] rfl (by (try simp only [List.map_toArray,List.map_cons,List.map_nil]);first | done | rfl | (simp only [List.length_drop,List.length_take];rfl)) ?_;(with_reducible refine (numnahref01_Total.calls k t381 true _ A4.out).mono ?_);rintro e w' ⟨rfl,⟨nd,rfl⟩⟩;refine ⟨_,rfl,?_⟩))
  go_ret
  exact ⟨by first | rfl | (simp [errW_none,errW_some] <;> rfl) | (simp [*,errW_none,errW_some] <;> rfl),by repeat (first | (with_reducible first | exact HB.out | apply below_alloc | apply pw_below_drewN | apply below_drew1) | exact HB.out)⟩
 rw [if_pos c6] at H
 have c6b0:(t384 == 0) = true:=beq_iff_eq.mpr c6
 have c6b1:(t384 != 0) = false:=bne_eq_false_iff_eq.mpr c6
 clear c6
 by_cases c7:(t383.length:Int) = 0
 case neg =>
  rw [if_neg c7] at H
  have c7b0:((t383.length:Int) == 0) = false:=beq_eq_false_iff_ne.mpr c7
  have c7b1:((t383.length:Int) != 0) = true:=bne_iff_ne.mpr c7
  have c7b2:¬ (t383 = []):=fun h_=>c7 (by rw [h_];rfl)
  by_cases c35:(t382.length:Int) = 0
  case neg =>
   rw [if_neg c35] at H
   have c35b0:((t382.length:Int) == 0) = false:=beq_eq_false_iff_ne.mpr c35
   have c35b1:((t382.length:Int) != 0) = true:=bne_iff_ne.mpr c35
   have c35b2:¬ (t382 = []):=fun h_=>c35 (by rw [h_];rfl)
   obtain rfl:=Option.some.inj H
   go_enter Try.func8,Try.ntmps8
   go_wp2_with (first | ((with_reducible refine gate_callee (f:=16) rfl ?_);refine goesL_ (some 8) rfl rfl Try.func16 (by kernel_rfl) rfl #[.string a0] rfl (by (try simp only [List.map_toArray,List.map_cons,List.map_nil]);first | done | rfl | (simp only [List.length_drop,List.length_take];rfl)) ?_;(with_reducible refine (numnahlaw01_short.calls a0 t381 _ A2.out).mono ?_);rintro e w59 ⟨rfl,hb⟩;refine ⟨_,rfl,?_⟩;have n0_:=Aside0.mk (below_step (by repeat (first | (with_reducible first | exact HB.out | apply below_alloc | apply pw_below_drewN | apply below_drew1) | exact HB.out)) hb);clear HB;have HB:=n0_;clear n0_;(try clear hb)) | ((with_reducible refine gate_callee (f:=44) rfl ?_);refine goesL_ (some 11) rfl rfl Try.func44 (by kernel_rfl) rfl #[.string t381] rfl (by (try simp only [List.map_toArray,List.map_cons,List.map_nil]);first | done | rfl | (simp only [List.length_drop,List.length_take];rfl)) ?_;(with_reducible refine (card_Weights.calls t381 t382 t383 t384 _ A3.out).mono ?_);rintro e w60 ⟨v385,v387,rfl,ho0,ho1,hb⟩;refine ⟨_,rfl,?_⟩;have n0_:=Aside0.mk (Kd.R_lower ho0 (below_size (by repeat (first | (with_reducible first | exact HB.out | apply below_alloc | apply pw_below_drewN | apply below_drew1) | exact HB.out))));have n1_:=Aside0.mk (Kd.S_lower ho1 (below_size (by repeat (first | (with_reducible first | exact HB.out | apply below_alloc | apply pw_below_drewN | apply below_drew1) | exact HB.out))));have n2_:=Aside0.mk (below_step (by repeat (first | (with_reducible first | exact HB.out | apply below_alloc | apply pw_below_drewN | apply below_drew1) | exact HB.out)) hb);clear HB;have HO386:=n0_;have HO388:=n1_;have HB:=n2_;clear n0_ n1_ n2_;(try clear hb);(try clear ho0);(try clear ho1)) | ((with_reducible refine gate_callee (f:=21) rfl ?_);refine goesL_ (some 16) rfl rfl Try.func21 (by kernel_rfl) rfl #[.string t381] rfl (by (try simp only [List.map_toArray,List.map_cons,List.map_nil]);first | done | rfl | (simp only [List.length_drop,List.length_take];rfl)) ?_;(with_reducible refine (numnahref01_Total.calls k t381 true _ A4.out).mono ?_);rintro e w' ⟨rfl,⟨nd,rfl⟩⟩;refine ⟨_,rfl,?_⟩;obtain ⟨Ao61,co61,eo61⟩:=Kd.S_slice HO388.out;subst eo61;obtain ⟨Ao62,co62,eo62⟩:=Kd.R_slice HO386.out;subst eo62))
   go_ret
   exact ⟨by first | rfl | (simp [errW_none,errW_some] <;> rfl) | (simp [*,errW_none,errW_some] <;> rfl),by repeat (first | (with_reducible first | exact HB.out | apply below_alloc | apply pw_below_drewN | apply below_drew1) | exact HB.out)⟩
  rw [if_pos c35] at H
  have c35b0:((t382.length:Int) == 0) = true:=beq_iff_eq.mpr c35
  have c35b1:((t382.length:Int) != 0) = false:=bne_eq_false_iff_eq.mpr c35
  clear c35
  replace H:=Option.bind_eq_some_iff.mp H
  obtain ⟨t396,A360,H⟩:=H
  replace H:(if t396 = true then ((card_Balance.f t381 t383).bind fun t397=>(if t397 = 0 then ((numnahlaw01_awake.f).bind fun t398=>(some t398)) else (some false))) else (some false)) = some r:=H
  have A36:=Aside0.mk A360
  clear A360
  by_cases c37:t396 = true
  case neg =>
   replace c37:=Bool.eq_false_iff.mpr c37
   subst c37
   have H1:(some false) = some r:=by rw [if_neg (show ¬ (false = true) by decide)] at H;exact H
   clear H
   have H:=H1
   clear H1
   obtain rfl:=Option.some.inj H
   go_enter Try.func8,Try.ntmps8
   go_wp2_with (first | ((with_reducible refine gate_callee (f:=16) rfl ?_);refine goesL_ (some 8) rfl rfl Try.func16 (by kernel_rfl) rfl #[.string a0] rfl (by (try simp only [List.map_toArray,List.map_cons,List.map_nil]);first | done | rfl | (simp only [List.length_drop,List.length_take];rfl)) ?_;(with_reducible refine (numnahlaw01_short.calls a0 t381 _ A2.out).mono ?_);rintro e w54 ⟨rfl,hb⟩;refine ⟨_,rfl,?_⟩;have n0_:=Aside0.mk (below_step (by repeat (first | (with_reducible first | exact HB.out | apply below_alloc | apply pw_below_drewN | apply below_drew1) | exact HB.out)) hb);clear HB;have HB:=n0_;clear n0_;(try clear hb)) | ((with_reducible refine gate_callee (f:=44) rfl ?_);refine goesL_ (some 11) rfl rfl Try.func44 (by kernel_rfl) rfl #[.string t381] rfl (by (try simp only [List.map_toArray,List.map_cons,List.map_nil]);first | done | rfl | (simp only [List.length_drop,List.length_take];rfl)) ?_;(with_reducible refine (card_Weights.calls t381 t382 t383 t384 _ A3.out).mono ?_);rintro e w55 ⟨v385,v387,rfl,ho0,ho1,hb⟩;refine ⟨_,rfl,?_⟩;have n0_:=Aside0.mk (Kd.R_lower ho0 (below_size (by repeat (first | (with_reducible first | exact HB.out | apply below_alloc | apply pw_below_drewN | apply below_drew1) | exact HB.out))));have n1_:=Aside0.mk (Kd.S_lower ho1 (below_size (by repeat (first | (with_reducible first | exact HB.out | apply below_alloc | apply pw_below_drewN | apply below_drew1) | exact HB.out))));have n2_:=Aside0.mk (below_step (by repeat (first | (with_reducible first | exact HB.out | apply below_alloc | apply pw_below_drewN | apply below_drew1) | exact HB.out)) hb);clear HB;have HO386:=n0_;have HO388:=n1_;have HB:=n2_;clear n0_ n1_ n2_;(try clear hb);(try clear ho0);(try clear ho1)) | ((with_reducible refine gate_callee (f:=21) rfl ?_);refine goesL_ (some 16) rfl rfl Try.func21 (by kernel_rfl) rfl #[.string t381] rfl (by (try simp only [List.map_toArray,List.map_cons,List.map_nil]);first | done | rfl | (simp only [List.length_drop,List.length_take];rfl)) ?_;(with_reducible refine (numnahref01_Total.calls k t381 true _ A4.out).mono ?_);rintro e w' ⟨rfl,⟨nd,rfl⟩⟩;refine ⟨_,rfl,?_⟩;obtain ⟨Ao56,co56,eo56⟩:=Kd.S_slice HO388.out;subst eo56;obtain ⟨Ao57,co57,eo57⟩:=Kd.R_slice HO386.out;subst eo57) | (go_at_call 26;(with_reducible refine (numnahref01_Balance.calls k t381 _ _ t383 false _ ?side1 ?side2 A36.out).mono ?_);(case side1=>repeat (first | exact (Kd.S_reads' HO388.out).2.2 | (with_reducible refine Kd.C_alloc ?_ _) | (with_reducible refine Kd.C_drewN ?_ _) | (with_reducible refine Kd.C_drew ?_)));(case side2=>exact (Kd.S_reads' HO388.out).2.1);rintro e w58 ⟨rfl,hb⟩;have n0_:=Aside0.mk (Kd.R_below (by (with_reducible repeat (first | apply Kd.R_alloc | apply Kd.R_drewN | apply Kd.R_drew));exact HO386.out) hb);have n1_:=Aside0.mk (Kd.S_below (by (with_reducible repeat (first | apply Kd.S_alloc | apply Kd.S_drewN | apply Kd.S_drew));exact HO388.out) hb);have n2_:=Aside0.mk (below_step (by repeat (first | (with_reducible first | exact HB.out | apply below_alloc | apply pw_below_drewN | apply below_drew1) | exact HB.out)) hb);clear HO386;clear HO388;clear HB;have HO386:=n0_;have HO388:=n1_;have HB:=n2_;clear n0_ n1_ n2_;(try clear hb)))
   go_ret
   exact ⟨by first | rfl | (simp [errW_none,errW_some] <;> rfl) | (simp [*,errW_none,errW_some] <;> rfl),by repeat (first | (with_reducible first | exact HB.out | apply below_alloc | apply pw_below_drewN | apply below_drew1) | exact HB.out)⟩
  subst c37
  have H1:((card_Balance.f t381 t383).bind fun t397=>(if t397 = 0 then ((numnahlaw01_awake.f).bind fun t398=>(some t398)) else (some false))) = some r:=by rw [if_pos rfl] at H;exact H
  clear H
  have H:=H1
  clear H1
  replace H:=Option.bind_eq_some_iff.mp H
  obtain ⟨t397,A380,H⟩:=H
  replace H:(if t397 = 0 then ((numnahlaw01_awake.f).bind fun t398=>(some t398)) else (some false)) = some r:=H
  have A38:=Aside0.mk A380
  clear A380
  by_cases c39:t397 = 0
  case neg =>
   rw [if_neg c39] at H
   have c39b0:(t397 == 0) = false:=beq_eq_false_iff_ne.mpr c39
   have c39b1:(t397 != 0) = true:=bne_iff_ne.mpr c39
   obtain rfl:=Option.some.inj H
   go_enter Try.func8,Try.ntmps8
   go_wp2_with (first | ((with_reducible refine gate_callee (f:=16) rfl ?_);refine goesL_ (some 8) rfl rfl Try.func16 (by kernel_rfl) rfl #[.string a0] rfl (by (try simp only [List.map_toArray,List.map_cons,List.map_nil]);first | done | rfl | (simp only [List.length_drop,List.length_take];rfl)) ?_;(with_reducible refine (numnahlaw01_short.calls a0 t381 _ A2.out).mono ?_);rintro e w48 ⟨rfl,hb⟩;refine ⟨_,rfl,?_⟩;have n0_:=Aside0.mk (below_step (by repeat (first | (with_reducible first | exact HB.out | apply below_alloc | apply pw_below_drewN | apply below_drew1) | exact HB.out)) hb);clear HB;have HB:=n0_;clear n0_;(try clear hb)) | ((with_reducible refine gate_callee (f:=44) rfl ?_);refine goesL_ (some 11) rfl rfl Try.func44 (by kernel_rfl) rfl #[.string t381] rfl (by (try simp only [List.map_toArray,List.map_cons,List.map_nil]);first | done | rfl | (simp only [List.length_drop,List.length_take];rfl)) ?_;(with_reducible refine (card_Weights.calls t381 t382 t383 t384 _ A3.out).mono ?_);rintro e w49 ⟨v385,v387,rfl,ho0,ho1,hb⟩;refine ⟨_,rfl,?_⟩;have n0_:=Aside0.mk (Kd.R_lower ho0 (below_size (by repeat (first | (with_reducible first | exact HB.out | apply below_alloc | apply pw_below_drewN | apply below_drew1) | exact HB.out))));have n1_:=Aside0.mk (Kd.S_lower ho1 (below_size (by repeat (first | (with_reducible first | exact HB.out | apply below_alloc | apply pw_below_drewN | apply below_drew1) | exact HB.out))));have n2_:=Aside0.mk (below_step (by repeat (first | (with_reducible first | exact HB.out | apply below_alloc | apply pw_below_drewN | apply below_drew1) | exact HB.out)) hb);clear HB;have HO386:=n0_;have HO388:=n1_;have HB:=n2_;clear n0_ n1_ n2_;(try clear hb);(try clear ho0);(try clear ho1)) | ((with_reducible refine gate_callee (f:=21) rfl ?_);refine goesL_ (some 16) rfl rfl Try.func21 (by kernel_rfl) rfl #[.string t381] rfl (by (try simp only [List.map_toArray,List.map_cons,List.map_nil]);first | done | rfl | (simp only [List.length_drop,List.length_take];rfl)) ?_;(with_reducible refine (numnahref01_Total.calls k t381 true _ A4.out).mono ?_);rintro e w' ⟨rfl,⟨nd,rfl⟩⟩;refine ⟨_,rfl,?_⟩;obtain ⟨Ao50,co50,eo50⟩:=Kd.S_slice HO388.out;subst eo50;obtain ⟨Ao51,co51,eo51⟩:=Kd.R_slice HO386.out;subst eo51) | (go_at_call 26;(with_reducible refine (numnahref01_Balance.calls k t381 _ _ t383 true _ ?side1 ?side2 A36.out).mono ?_);(case side1=>repeat (first | exact (Kd.S_reads' HO388.out).2.2 | (with_reducible refine Kd.C_alloc ?_ _) | (with_reducible refine Kd.C_drewN ?_ _) | (with_reducible refine Kd.C_drew ?_)));(case side2=>exact (Kd.S_reads' HO388.out).2.1);rintro e w52 ⟨rfl,hb⟩;have n0_:=Aside0.mk (Kd.R_below (by (with_reducible repeat (first | apply Kd.R_alloc | apply Kd.R_drewN | apply Kd.R_drew));exact HO386.out) hb);have n1_:=Aside0.mk (Kd.S_below (by (with_reducible repeat (first | apply Kd.S_alloc | apply Kd.S_drewN | apply Kd.S_drew));exact HO388.out) hb);have n2_:=Aside0.mk (below_step (by repeat (first | (with_reducible first | exact HB.out | apply below_alloc | apply pw_below_drewN | apply below_drew1) | exact HB.out)) hb);clear HO386;clear HO388;clear HB;have HO386:=n0_;have HO388:=n1_;have HB:=n2_;clear n0_ n1_ n2_;(try clear hb)) | (go_at_call 20;(with_reducible refine (card_Balance.calls t381 _ _ t383 t397 _ ?side1 ?side2 A38.out).mono ?_);(case side1=>repeat (first | exact (Kd.S_reads' HO388.out).2.2 | (with_reducible refine Kd.C_alloc ?_ _) | (with_reducible refine Kd.C_drewN ?_ _) | (with_reducible refine Kd.C_drew ?_)));(case side2=>exact (Kd.S_reads' HO388.out).2.1);rintro e w53 ⟨rfl,hb⟩;have n0_:=Aside0.mk (Kd.R_below (by (with_reducible repeat (first | apply Kd.R_alloc | apply Kd.R_drewN | apply Kd.R_drew));exact HO386.out) hb);have n1_:=Aside0.mk (Kd.S_below (by (with_reducible repeat (first | apply Kd.S_alloc | apply Kd.S_drewN | apply Kd.S_drew));exact HO388.out) hb);have n2_:=Aside0.mk (below_step (by repeat (first | (with_reducible first | exact HB.out | apply below_alloc | apply pw_below_drewN | apply below_drew1) | exact HB.out)) hb);clear HO386;clear HO388;clear HB;have HO386:=n0_;have HO388:=n1_;have HB:=n2_;clear n0_ n1_ n2_;(try clear hb)))
   go_ret
   exact ⟨by first | rfl | (simp [errW_none,errW_some] <;> rfl) | (simp [*,errW_none,errW_some] <;> rfl),by repeat (first | (with_reducible first | exact HB.out | apply below_alloc | apply pw_below_drewN | apply below_drew1) | exact HB.out)⟩
  rw [if_pos c39] at H
  have c39b0:(t397 == 0) = true:=beq_iff_eq.mpr c39
  have c39b1:(t397 != 0) = false:=bne_eq_false_iff_eq.mpr c39
  clear c39
  replace H:=Option.bind_eq_some_iff.mp H
  obtain ⟨t398,A400,H⟩:=H
  replace H:(some t398) = some r:=H
  have A40:=Aside0.mk A400
  clear A400
  obtain rfl:=Option.some.inj H
  go_enter Try.func8,Try.ntmps8
  go_wp2_with (first | ((with_reducible refine gate_callee (f:=16) rfl ?_);refine goesL_ (some 8) rfl rfl Try.func16 (by kernel_rfl) rfl #[.string a0] rfl (by (try simp only [List.map_toArray,List.map_cons,List.map_nil]);first | done | rfl | (simp only [List.length_drop,List.length_take];rfl)) ?_;(with_reducible refine (numnahlaw01_short.calls a0 t381 _ A2.out).mono ?_);rintro e w41 ⟨rfl,hb⟩;refine ⟨_,rfl,?_⟩;have n0_:=Aside0.mk (below_step (by repeat (first | (with_reducible first | exact HB.out | apply below_alloc | apply pw_below_drewN | apply below_drew1) | exact HB.out)) hb);clear HB;have HB:=n0_;clear n0_;(try clear hb)) | ((with_reducible refine gate_callee (f:=44) rfl ?_);refine goesL_ (some 11) rfl rfl Try.func44 (by kernel_rfl) rfl #[.string t381] rfl (by (try simp only [List.map_toArray,List.map_cons,List.map_nil]);first | done | rfl | (simp only [List.length_drop,List.length_take];rfl)) ?_;(with_reducible refine (card_Weights.calls t381 t382 t383 t384 _ A3.out).mono ?_);rintro e w42 ⟨v385,v387,rfl,ho0,ho1,hb⟩;refine ⟨_,rfl,?_⟩;have n0_:=Aside0.mk (Kd.R_lower ho0 (below_size (by repeat (first | (with_reducible first | exact HB.out | apply below_alloc | apply pw_below_drewN | apply below_drew1) | exact HB.out))));have n1_:=Aside0.mk (Kd.S_lower ho1 (below_size (by repeat (first | (with_reducible first | exact HB.out | apply below_alloc | apply pw_below_drewN | apply below_drew1) | exact HB.out))));have n2_:=Aside0.mk (below_step (by repeat (first | (with_reducible first | exact HB.out | apply below_alloc | apply pw_below_drewN | apply below_drew1) | exact HB.out)) hb);clear HB;have HO386:=n0_;have HO388:=n1_;have HB:=n2_;clear n0_ n1_ n2_;(try clear hb);(try clear ho0);(try clear ho1)) | ((with_reducible refine gate_callee (f:=21) rfl ?_);refine goesL_ (some 16) rfl rfl Try.func21 (by kernel_rfl) rfl #[.string t381] rfl (by (try simp only [List.map_toArray,List.map_cons,List.map_nil]);first | done | rfl | (simp only [List.length_drop,List.length_take];rfl)) ?_;(with_reducible refine (numnahref01_Total.calls k t381 true _ A4.out).mono ?_);rintro e w' ⟨rfl,⟨nd,rfl⟩⟩;refine ⟨_,rfl,?_⟩;obtain ⟨Ao43,co43,eo43⟩:=Kd.S_slice HO388.out;subst eo43;obtain ⟨Ao44,co44,eo44⟩:=Kd.R_slice HO386.out;subst eo44) | (go_at_call 26;(with_reducible refine (numnahref01_Balance.calls k t381 _ _ t383 true _ ?side1 ?side2 A36.out).mono ?_);(case side1=>repeat (first | exact (Kd.S_reads' HO388.out).2.2 | (with_reducible refine Kd.C_alloc ?_ _) | (with_reducible refine Kd.C_drewN ?_ _) | (with_reducible refine Kd.C_drew ?_)));(case side2=>exact (Kd.S_reads' HO388.out).2.1);rintro e w45 ⟨rfl,hb⟩;have n0_:=Aside0.mk (Kd.R_below (by (with_reducible repeat (first | apply Kd.R_alloc | apply Kd.R_drewN | apply Kd.R_drew));exact HO386.out) hb);have n1_:=Aside0.mk (Kd.S_below (by (with_reducible repeat (first | apply Kd.S_alloc | apply Kd.S_drewN | apply Kd.S_drew));exact HO388.out) hb);have n2_:=Aside0.mk (below_step (by repeat (first | (with_reducible first | exact HB.out | apply below_alloc | apply pw_below_drewN | apply below_drew1) | exact HB.out)) hb);clear HO386;clear HO388;clear HB;have HO386:=n0_;have HO388:=n1_;have HB:=n2_;clear n0_ n1_ n2_;(try clear hb)) | (go_at_call 20;(with_reducible refine (card_Balance.calls t381 _ _ t383 t397 _ ?side1 ?side2 A38.out).mono ?_);(case side1=>repeat (first | exact (Kd.S_reads' HO388.out).2.2 | (with_reducible refine Kd.C_alloc ?_ _) | (with_reducible refine Kd.C_drewN ?_ _) | (with_reducible refine Kd.C_drew ?_)));(case side2=>exact (Kd.S_reads' HO388.out).2.1);rintro e w46 ⟨rfl,hb⟩;have n0_:=Aside0.mk (Kd.R_below (by (with_reducible repeat (first | apply Kd.R_alloc | apply Kd.R_drewN | apply Kd.R_drew));exact HO386.out) hb);have n1_:=Aside0.mk (Kd.S_below (by (with_reducible repeat (first | apply Kd.S_alloc | apply Kd.S_drewN | apply Kd.S_drew));exact HO388.out) hb);have n2_:=Aside0.mk (below_step (by repeat (first | (with_reducible first | exact HB.out | apply below_alloc | apply pw_below_drewN | apply below_drew1) | exact HB.out)) hb);clear HO386;clear HO388;clear HB;have HO386:=n0_;have HO388:=n1_;have HB:=n2_;clear n0_ n1_ n2_;(try clear hb)) | (go_at_call 22;(with_reducible refine (numnahlaw01_awake.calls  t398 _ A40.out).mono ?_);rintro e w47 ⟨rfl,hb⟩;have n0_:=Aside0.mk (Kd.R_below (by (with_reducible repeat (first | apply Kd.R_alloc | apply Kd.R_drewN | apply Kd.R_drew));exact HO386.out) hb);have n1_:=Aside0.mk (Kd.S_below (by (with_reducible repeat (first | apply Kd.S_alloc | apply Kd.S_drewN | apply Kd.S_drew));exact HO388.out) hb);have n2_:=Aside0.mk (below_step (by repeat (first | (with_reducible first | exact HB.out | apply below_alloc | apply pw_below_drewN | apply below_drew1) | exact HB.out)) hb);clear HO386;clear HO388;clear HB;have HO386:=n0_;have HO388:=n1_;have HB:=n2_;clear n0_ n1_ n2_;(try clear hb)))
  go_ret
  exact ⟨by first | rfl | (simp [errW_none,errW_some] <;> rfl) | (simp [*,errW_none,errW_some] <;> rfl),by repeat (first | (with_reducible first | exact HB.out | apply below_alloc | apply pw_below_drewN | apply below_drew1) | exact HB.out)⟩
 rw [if_pos c7] at H
 have c7b0:((t383.length:Int) == 0) = true:=beq_iff_eq.mpr c7
 have c7b1:((t383.length:Int) != 0) = false:=bne_eq_false_iff_eq.mpr c7
 clear c7
 replace H:=Option.bind_eq_some_iff.mp H
 obtain ⟨t391,A80,H⟩:=H
 replace H:((numnahref01_Weights.f k t382 t391).bind fun t392=>(if t392 = true then ((numnahref01_Realize.f k t381 t382).bind fun t393=>(if t393 = true then ((card_Realize.f t381 t382).bind fun t394=>(if t394 = 0 then ((numnahlaw01_awake.f).bind fun t395=>(some t395)) else (some false))) else (some false))) else (some false))) = some r:=H
 have A8:=Aside0.mk A80
 clear A80
 replace H:=Option.bind_eq_some_iff.mp H
 obtain ⟨t392,A90,H⟩:=H
 replace H:(if t392 = true then ((numnahref01_Realize.f k t381 t382).bind fun t393=>(if t393 = true then ((card_Realize.f t381 t382).bind fun t394=>(if t394 = 0 then ((numnahlaw01_awake.f).bind fun t395=>(some t395)) else (some false))) else (some false))) else (some false)) = some r:=H
 have A9:=Aside0.mk A90
 clear A90
 by_cases c10:t392 = true
 case neg =>
  replace c10:=Bool.eq_false_iff.mpr c10
  subst c10
  have H1:(some false) = some r:=by rw [if_neg (show ¬ (false = true) by decide)] at H;exact H
  clear H
  have H:=H1
  clear H1
  obtain rfl:=Option.some.inj H
  go_enter Try.func8,Try.ntmps8
  go_wp2_with (first | ((with_reducible refine gate_callee (f:=16) rfl ?_);refine goesL_ (some 8) rfl rfl Try.func16 (by kernel_rfl) rfl #[.string a0] rfl (by (try simp only [List.map_toArray,List.map_cons,List.map_nil]);first | done | rfl | (simp only [List.length_drop,List.length_take];rfl)) ?_;(with_reducible refine (numnahlaw01_short.calls a0 t381 _ A2.out).mono ?_);rintro e w31 ⟨rfl,hb⟩;refine ⟨_,rfl,?_⟩;have n0_:=Aside0.mk (below_step (by repeat (first | (with_reducible first | exact HB.out | apply below_alloc | apply pw_below_drewN | apply below_drew1) | exact HB.out)) hb);clear HB;have HB:=n0_;clear n0_;(try clear hb)) | ((with_reducible refine gate_callee (f:=44) rfl ?_);refine goesL_ (some 11) rfl rfl Try.func44 (by kernel_rfl) rfl #[.string t381] rfl (by (try simp only [List.map_toArray,List.map_cons,List.map_nil]);first | done | rfl | (simp only [List.length_drop,List.length_take];rfl)) ?_;(with_reducible refine (card_Weights.calls t381 t382 t383 t384 _ A3.out).mono ?_);rintro e w32 ⟨v385,v387,rfl,ho0,ho1,hb⟩;refine ⟨_,rfl,?_⟩;have n0_:=Aside0.mk (Kd.R_lower ho0 (below_size (by repeat (first | (with_reducible first | exact HB.out | apply below_alloc | apply pw_below_drewN | apply below_drew1) | exact HB.out))));have n1_:=Aside0.mk (Kd.S_lower ho1 (below_size (by repeat (first | (with_reducible first | exact HB.out | apply below_alloc | apply pw_below_drewN | apply below_drew1) | exact HB.out))));have n2_:=Aside0.mk (below_step (by repeat (first | (with_reducible first | exact HB.out | apply below_alloc | apply pw_below_drewN | apply below_drew1) | exact HB.out)) hb);clear HB;have HO386:=n0_;have HO388:=n1_;have HB:=n2_;clear n0_ n1_ n2_;(try clear hb);(try clear ho0);(try clear ho1)) | ((with_reducible refine gate_callee (f:=21) rfl ?_);refine goesL_ (some 16) rfl rfl Try.func21 (by kernel_rfl) rfl #[.string t381] rfl (by (try simp only [List.map_toArray,List.map_cons,List.map_nil]);first | done | rfl | (simp only [List.length_drop,List.length_take];rfl)) ?_;(with_reducible refine (numnahref01_Total.calls k t381 true _ A4.out).mono ?_);rintro e w' ⟨rfl,⟨nd,rfl⟩⟩;refine ⟨_,rfl,?_⟩;obtain ⟨Ao33,co33,eo33⟩:=Kd.S_slice HO388.out;subst eo33) | ((with_reducible refine gate_callee (f:=24) rfl ?_);refine goesL_ (some 40) rfl rfl Try.func24 (by kernel_rfl) rfl #[.string t381] rfl (by (try simp only [List.map_toArray,List.map_cons,List.map_nil]);first | done | rfl | (simp only [List.length_drop,List.length_take];rfl)) ?_;(with_reducible refine (numnahref01_Vars.calls k t381 t391 _ A8.out).mono ?_);rintro e w' ⟨rfl,⟨nd,rfl⟩⟩;refine ⟨_,rfl,?_⟩;obtain ⟨Ao34,co34,eo34⟩:=Kd.R_slice HO386.out;subst eo34) | ((with_reducible refine gate_callee (f:=23) rfl ?_);refine goesL_ (some 41) rfl rfl Try.func23 (by kernel_rfl) rfl #[.slice Ao34 t382.length co34,.int .i64 t391] rfl (by (try simp only [List.map_toArray,List.map_cons,List.map_nil]);first | done | rfl | (simp only [List.length_drop,List.length_take];rfl)) ?_;(with_reducible refine (numnahref01_Weights.calls k _ _ t382 t391 false _ ?side1 ?side2 A9.out).mono ?_);(case side1=>repeat (first | exact (Kd.R_reads' HO386.out).2.2 | (with_reducible refine Kd.C_alloc ?_ _) | (with_reducible refine Kd.C_drewN ?_ _) | (with_reducible refine Kd.C_drew ?_)));(case side2=>exact (Kd.R_reads' HO386.out).2.1);rintro e w' ⟨rfl,⟨nd,rfl⟩⟩;refine ⟨_,rfl,?_⟩))
  go_ret
  exact ⟨by first | rfl | (simp [errW_none,errW_some] <;> rfl) | (simp [*,errW_none,errW_some] <;> rfl),by repeat (first | (with_reducible first | exact HB.out | apply below_alloc | apply pw_below_drewN | apply below_drew1) | exact HB.out)⟩
 subst c10
 have H1:((numnahref01_Realize.f k t381 t382).bind fun t393=>(if t393 = true then ((card_Realize.f t381 t382).bind fun t394=>(if t394 = 0 then ((numnahlaw01_awake.f).bind fun t395=>(some t395)) else (some false))) else (some false))) = some r:=by rw [if_pos rfl] at H;exact H
 clear H
 have H:=H1
 clear H1
 replace H:=Option.bind_eq_some_iff.mp H
 obtain ⟨t393,A110,H⟩:=H
 replace H:(if t393 = true then ((card_Realize.f t381 t382).bind fun t394=>(if t394 = 0 then ((numnahlaw01_awake.f).bind fun t395=>(some t395)) else (some false))) else (some false)) = some r:=H
 have A11:=Aside0.mk A110
 clear A110
 by_cases c12:t393 = true
 case neg =>
  replace c12:=Bool.eq_false_iff.mpr c12
  subst c12
  have H1:(some false) = some r:=by rw [if_neg (show ¬ (false = true) by decide)] at H;exact H
  clear H
  have H:=H1
  clear H1
  obtain rfl:=Option.some.inj H
  go_enter Try.func8,Try.ntmps8
  go_wp2_with (first | ((with_reducible refine gate_callee (f:=16) rfl ?_);refine goesL_ (some 8) rfl rfl Try.func16 (by kernel_rfl) rfl #[.string a0] rfl (by (try simp only [List.map_toArray,List.map_cons,List.map_nil]);first | done | rfl | (simp only [List.length_drop,List.length_take];rfl)) ?_;(with_reducible refine (numnahlaw01_short.calls a0 t381 _ A2.out).mono ?_);rintro e w27 ⟨rfl,hb⟩;refine ⟨_,rfl,?_⟩;have n0_:=Aside0.mk (below_step (by repeat (first | (with_reducible first | exact HB.out | apply below_alloc | apply pw_below_drewN | apply below_drew1) | exact HB.out)) hb);clear HB;have HB:=n0_;clear n0_;(try clear hb)) | ((with_reducible refine gate_callee (f:=44) rfl ?_);refine goesL_ (some 11) rfl rfl Try.func44 (by kernel_rfl) rfl #[.string t381] rfl (by (try simp only [List.map_toArray,List.map_cons,List.map_nil]);first | done | rfl | (simp only [List.length_drop,List.length_take];rfl)) ?_;(with_reducible refine (card_Weights.calls t381 t382 t383 t384 _ A3.out).mono ?_);rintro e w28 ⟨v385,v387,rfl,ho0,ho1,hb⟩;refine ⟨_,rfl,?_⟩;have n0_:=Aside0.mk (Kd.R_lower ho0 (below_size (by repeat (first | (with_reducible first | exact HB.out | apply below_alloc | apply pw_below_drewN | apply below_drew1) | exact HB.out))));have n1_:=Aside0.mk (Kd.S_lower ho1 (below_size (by repeat (first | (with_reducible first | exact HB.out | apply below_alloc | apply pw_below_drewN | apply below_drew1) | exact HB.out))));have n2_:=Aside0.mk (below_step (by repeat (first | (with_reducible first | exact HB.out | apply below_alloc | apply pw_below_drewN | apply below_drew1) | exact HB.out)) hb);clear HB;have HO386:=n0_;have HO388:=n1_;have HB:=n2_;clear n0_ n1_ n2_;(try clear hb);(try clear ho0);(try clear ho1)) | ((with_reducible refine gate_callee (f:=21) rfl ?_);refine goesL_ (some 16) rfl rfl Try.func21 (by kernel_rfl) rfl #[.string t381] rfl (by (try simp only [List.map_toArray,List.map_cons,List.map_nil]);first | done | rfl | (simp only [List.length_drop,List.length_take];rfl)) ?_;(with_reducible refine (numnahref01_Total.calls k t381 true _ A4.out).mono ?_);rintro e w' ⟨rfl,⟨nd,rfl⟩⟩;refine ⟨_,rfl,?_⟩;obtain ⟨Ao29,co29,eo29⟩:=Kd.S_slice HO388.out;subst eo29) | ((with_reducible refine gate_callee (f:=24) rfl ?_);refine goesL_ (some 40) rfl rfl Try.func24 (by kernel_rfl) rfl #[.string t381] rfl (by (try simp only [List.map_toArray,List.map_cons,List.map_nil]);first | done | rfl | (simp only [List.length_drop,List.length_take];rfl)) ?_;(with_reducible refine (numnahref01_Vars.calls k t381 t391 _ A8.out).mono ?_);rintro e w' ⟨rfl,⟨nd,rfl⟩⟩;refine ⟨_,rfl,?_⟩;obtain ⟨Ao30,co30,eo30⟩:=Kd.R_slice HO386.out;subst eo30) | ((with_reducible refine gate_callee (f:=23) rfl ?_);refine goesL_ (some 41) rfl rfl Try.func23 (by kernel_rfl) rfl #[.slice Ao30 t382.length co30,.int .i64 t391] rfl (by (try simp only [List.map_toArray,List.map_cons,List.map_nil]);first | done | rfl | (simp only [List.length_drop,List.length_take];rfl)) ?_;(with_reducible refine (numnahref01_Weights.calls k _ _ t382 t391 true _ ?side1 ?side2 A9.out).mono ?_);(case side1=>repeat (first | exact (Kd.R_reads' HO386.out).2.2 | (with_reducible refine Kd.C_alloc ?_ _) | (with_reducible refine Kd.C_drewN ?_ _) | (with_reducible refine Kd.C_drew ?_)));(case side2=>exact (Kd.R_reads' HO386.out).2.1);rintro e w' ⟨rfl,⟨nd,rfl⟩⟩;refine ⟨_,rfl,?_⟩) | (go_at_call 25;(with_reducible refine (numnahref01_Realize.calls k t381 _ _ t382 false _ ?side1 ?side2 A11.out).mono ?_);(case side1=>repeat (first | exact (Kd.R_reads' HO386.out).2.2 | (with_reducible refine Kd.C_alloc ?_ _) | (with_reducible refine Kd.C_drewN ?_ _) | (with_reducible refine Kd.C_drew ?_)));(case side2=>exact (Kd.R_reads' HO386.out).2.1);rintro e w' ⟨rfl,⟨nd,rfl⟩⟩))
  go_ret
  exact ⟨by first | rfl | (simp [errW_none,errW_some] <;> rfl) | (simp [*,errW_none,errW_some] <;> rfl),by repeat (first | (with_reducible first | exact HB.out | apply below_alloc | apply pw_below_drewN | apply below_drew1) | exact HB.out)⟩
 subst c12
 have H1:((card_Realize.f t381 t382).bind fun t394=>(if t394 = 0 then ((numnahlaw01_awake.f).bind fun t395=>(some t395)) else (some false))) = some r:=by rw [if_pos rfl] at H;exact H
 clear H
 have H:=H1
 clear H1
 replace H:=Option.bind_eq_some_iff.mp H
 obtain ⟨t394,A130,H⟩:=H
 replace H:(if t394 = 0 then ((numnahlaw01_awake.f).bind fun t395=>(some t395)) else (some false)) = some r:=H
 have A13:=Aside0.mk A130
 clear A130
 by_cases c14:t394 = 0
 case neg =>
  rw [if_neg c14] at H
  have c14b0:(t394 == 0) = false:=beq_eq_false_iff_ne.mpr c14
  have c14b1:(t394 != 0) = true:=bne_iff_ne.mpr c14
  obtain rfl:=Option.some.inj H
  go_enter Try.func8,Try.ntmps8
  go_wp2_with (first | ((with_reducible refine gate_callee (f:=16) rfl ?_);refine goesL_ (some 8) rfl rfl Try.func16 (by kernel_rfl) rfl #[.string a0] rfl (by (try simp only [List.map_toArray,List.map_cons,List.map_nil]);first | done | rfl | (simp only [List.length_drop,List.length_take];rfl)) ?_;(with_reducible refine (numnahlaw01_short.calls a0 t381 _ A2.out).mono ?_);rintro e w22 ⟨rfl,hb⟩;refine ⟨_,rfl,?_⟩;have n0_:=Aside0.mk (below_step (by repeat (first | (with_reducible first | exact HB.out | apply below_alloc | apply pw_below_drewN | apply below_drew1) | exact HB.out)) hb);clear HB;have HB:=n0_;clear n0_;(try clear hb)) | ((with_reducible refine gate_callee (f:=44) rfl ?_);refine goesL_ (some 11) rfl rfl Try.func44 (by kernel_rfl) rfl #[.string t381] rfl (by (try simp only [List.map_toArray,List.map_cons,List.map_nil]);first | done | rfl | (simp only [List.length_drop,List.length_take];rfl)) ?_;(with_reducible refine (card_Weights.calls t381 t382 t383 t384 _ A3.out).mono ?_);rintro e w23 ⟨v385,v387,rfl,ho0,ho1,hb⟩;refine ⟨_,rfl,?_⟩;have n0_:=Aside0.mk (Kd.R_lower ho0 (below_size (by repeat (first | (with_reducible first | exact HB.out | apply below_alloc | apply pw_below_drewN | apply below_drew1) | exact HB.out))));have n1_:=Aside0.mk (Kd.S_lower ho1 (below_size (by repeat (first | (with_reducible first | exact HB.out | apply below_alloc | apply pw_below_drewN | apply below_drew1) | exact HB.out))));have n2_:=Aside0.mk (below_step (by repeat (first | (with_reducible first | exact HB.out | apply below_alloc | apply pw_below_drewN | apply below_drew1) | exact HB.out)) hb);clear HB;have HO386:=n0_;have HO388:=n1_;have HB:=n2_;clear n0_ n1_ n2_;(try clear hb);(try clear ho0);(try clear ho1)) | ((with_reducible refine gate_callee (f:=21) rfl ?_);refine goesL_ (some 16) rfl rfl Try.func21 (by kernel_rfl) rfl #[.string t381] rfl (by (try simp only [List.map_toArray,List.map_cons,List.map_nil]);first | done | rfl | (simp only [List.length_drop,List.length_take];rfl)) ?_;(with_reducible refine (numnahref01_Total.calls k t381 true _ A4.out).mono ?_);rintro e w' ⟨rfl,⟨nd,rfl⟩⟩;refine ⟨_,rfl,?_⟩;obtain ⟨Ao24,co24,eo24⟩:=Kd.S_slice HO388.out;subst eo24) | ((with_reducible refine gate_callee (f:=24) rfl ?_);refine goesL_ (some 40) rfl rfl Try.func24 (by kernel_rfl) rfl #[.string t381] rfl (by (try simp only [List.map_toArray,List.map_cons,List.map_nil]);first | done | rfl | (simp only [List.length_drop,List.length_take];rfl)) ?_;(with_reducible refine (numnahref01_Vars.calls k t381 t391 _ A8.out).mono ?_);rintro e w' ⟨rfl,⟨nd,rfl⟩⟩;refine ⟨_,rfl,?_⟩;obtain ⟨Ao25,co25,eo25⟩:=Kd.R_slice HO386.out;subst eo25) | ((with_reducible refine gate_callee (f:=23) rfl ?_);refine goesL_ (some 41) rfl rfl Try.func23 (by kernel_rfl) rfl #[.slice Ao25 t382.length co25,.int .i64 t391] rfl (by (try simp only [List.map_toArray,List.map_cons,List.map_nil]);first | done | rfl | (simp only [List.length_drop,List.length_take];rfl)) ?_;(with_reducible refine (numnahref01_Weights.calls k _ _ t382 t391 true _ ?side1 ?side2 A9.out).mono ?_);(case side1=>repeat (first | exact (Kd.R_reads' HO386.out).2.2 | (with_reducible refine Kd.C_alloc ?_ _) | (with_reducible refine Kd.C_drewN ?_ _) | (with_reducible refine Kd.C_drew ?_)));(case side2=>exact (Kd.R_reads' HO386.out).2.1);rintro e w' ⟨rfl,⟨nd,rfl⟩⟩;refine ⟨_,rfl,?_⟩) | (go_at_call 25;(with_reducible refine (numnahref01_Realize.calls k t381 _ _ t382 true _ ?side1 ?side2 A11.out).mono ?_);(case side1=>repeat (first | exact (Kd.R_reads' HO386.out).2.2 | (with_reducible refine Kd.C_alloc ?_ _) | (with_reducible refine Kd.C_drewN ?_ _) | (with_reducible refine Kd.C_drew ?_)));(case side2=>exact (Kd.R_reads' HO386.out).2.1);rintro e w' ⟨rfl,⟨nd,rfl⟩⟩) | (go_at_call 19;(with_reducible refine (card_Realize.calls t381 _ _ t382 t394 _ ?side1 ?side2 A13.out).mono ?_);(case side1=>repeat (first | exact (Kd.R_reads' HO386.out).2.2 | (with_reducible refine Kd.C_alloc ?_ _) | (with_reducible refine Kd.C_drewN ?_ _) | (with_reducible refine Kd.C_drew ?_)));(case side2=>exact (Kd.R_reads' HO386.out).2.1);rintro e w26 ⟨rfl,hb⟩;have n0_:=Aside0.mk (Kd.R_below (by (with_reducible repeat (first | apply Kd.R_alloc | apply Kd.R_drewN | apply Kd.R_drew));exact HO386.out) hb);have n1_:=Aside0.mk (Kd.S_below (by (with_reducible repeat (first | apply Kd.S_alloc | apply Kd.S_drewN | apply Kd.S_drew));exact HO388.out) hb);have n2_:=Aside0.mk (below_step (by repeat (first | (with_reducible first | exact HB.out | apply below_alloc | apply pw_below_drewN | apply below_drew1) | exact HB.out)) hb);clear HO386;clear HO388;clear HB;have HO386:=n0_;have HO388:=n1_;have HB:=n2_;clear n0_ n1_ n2_;(try clear hb)))
  go_ret
  exact ⟨by first | rfl | (simp [errW_none,errW_some] <;> rfl) | (simp [*,errW_none,errW_some] <;> rfl),by repeat (first | (with_reducible first | exact HB.out | apply below_alloc | apply pw_below_drewN | apply below_drew1) | exact HB.out)⟩
 rw [if_pos c14] at H
 have c14b0:(t394 == 0) = true:=beq_iff_eq.mpr c14
 have c14b1:(t394 != 0) = false:=bne_eq_false_iff_eq.mpr c14
 clear c14
 replace H:=Option.bind_eq_some_iff.mp H
 obtain ⟨t395,A150,H⟩:=H
 replace H:(some t395) = some r:=H
 have A15:=Aside0.mk A150
 clear A150
 obtain rfl:=Option.some.inj H
 go_enter Try.func8,Try.ntmps8
 go_wp2_with (first | ((with_reducible refine gate_callee (f:=16) rfl ?_);refine goesL_ (some 8) rfl rfl Try.func16 (by kernel_rfl) rfl #[.string a0] rfl (by (try simp only [List.map_toArray,List.map_cons,List.map_nil]);first | done | rfl | (simp only [List.length_drop,List.length_take];rfl)) ?_;(with_reducible refine (numnahlaw01_short.calls a0 t381 _ A2.out).mono ?_);rintro e w16 ⟨rfl,hb⟩;refine ⟨_,rfl,?_⟩;have n0_:=Aside0.mk (below_step (by repeat (first | (with_reducible first | exact HB.out | apply below_alloc | apply pw_below_drewN | apply below_drew1) | exact HB.out)) hb);clear HB;have HB:=n0_;clear n0_;(try clear hb)) | ((with_reducible refine gate_callee (f:=44) rfl ?_);refine goesL_ (some 11) rfl rfl Try.func44 (by kernel_rfl) rfl #[.string t381] rfl (by (try simp only [List.map_toArray,List.map_cons,List.map_nil]);first | done | rfl | (simp only [List.length_drop,List.length_take];rfl)) ?_;(with_reducible refine (card_Weights.calls t381 t382 t383 t384 _ A3.out).mono ?_);rintro e w17 ⟨v385,v387,rfl,ho0,ho1,hb⟩;refine ⟨_,rfl,?_⟩;have n0_:=Aside0.mk (Kd.R_lower ho0 (below_size (by repeat (first | (with_reducible first | exact HB.out | apply below_alloc | apply pw_below_drewN | apply below_drew1) | exact HB.out))));have n1_:=Aside0.mk (Kd.S_lower ho1 (below_size (by repeat (first | (with_reducible first | exact HB.out | apply below_alloc | apply pw_below_drewN | apply below_drew1) | exact HB.out))));have n2_:=Aside0.mk (below_step (by repeat (first | (with_reducible first | exact HB.out | apply below_alloc | apply pw_below_drewN | apply below_drew1) | exact HB.out)) hb);clear HB;have HO386:=n0_;have HO388:=n1_;have HB:=n2_;clear n0_ n1_ n2_;(try clear hb);(try clear ho0);(try clear ho1)) | ((with_reducible refine gate_callee (f:=21) rfl ?_);refine goesL_ (some 16) rfl rfl Try.func21 (by kernel_rfl) rfl #[.string t381] rfl (by (try simp only [List.map_toArray,List.map_cons,List.map_nil]);first | done | rfl | (simp only [List.length_drop,List.length_take];rfl)) ?_;(with_reducible refine (numnahref01_Total.calls k t381 true _ A4.out).mono ?_);rintro e w' ⟨rfl,⟨nd,rfl⟩⟩;refine ⟨_,rfl,?_⟩;obtain ⟨Ao18,co18,eo18⟩:=Kd.S_slice HO388.out;subst eo18) | ((with_reducible refine gate_callee (f:=24) rfl ?_);refine goesL_ (some 40) rfl rfl Try.func24 (by kernel_rfl) rfl #[.string t381] rfl (by (try simp only [List.map_toArray,List.map_cons,List.map_nil]);first | done | rfl | (simp only [List.length_drop,List.length_take];rfl)) ?_;(with_reducible refine (numnahref01_Vars.calls k t381 t391 _ A8.out).mono ?_);rintro e w' ⟨rfl,⟨nd,rfl⟩⟩;refine ⟨_,rfl,?_⟩;obtain ⟨Ao19,co19,eo19⟩:=Kd.R_slice HO386.out;subst eo19) | ((with_reducible refine gate_callee (f:=23) rfl ?_);refine goesL_ (some 41) rfl rfl Try.func23 (by kernel_rfl) rfl #[.slice Ao19 t382.length co19,.int .i64 t391] rfl (by (try simp only [List.map_toArray,List.map_cons,List.map_nil]);first | done | rfl | (simp only [List.length_drop,List.length_take];rfl)) ?_;(with_reducible refine (numnahref01_Weights.calls k _ _ t382 t391 true _ ?side1 ?side2 A9.out).mono ?_);(case side1=>repeat (first | exact (Kd.R_reads' HO386.out).2.2 | (with_reducible refine Kd.C_alloc ?_ _) | (with_reducible refine Kd.C_drewN ?_ _) | (with_reducible refine Kd.C_drew ?_)));(case side2=>exact (Kd.R_reads' HO386.out).2.1);rintro e w' ⟨rfl,⟨nd,rfl⟩⟩;refine ⟨_,rfl,?_⟩) | (go_at_call 25;(with_reducible refine (numnahref01_Realize.calls k t381 _ _ t382 true _ ?side1 ?side2 A11.out).mono ?_);(case side1=>repeat (first | exact (Kd.R_reads' HO386.out).2.2 | (with_reducible refine Kd.C_alloc ?_ _) | (with_reducible refine Kd.C_drewN ?_ _) | (with_reducible refine Kd.C_drew ?_)));(case side2=>exact (Kd.R_reads' HO386.out).2.1);rintro e w' ⟨rfl,⟨nd,rfl⟩⟩) | (go_at_call 19;(with_reducible refine (card_Realize.calls t381 _ _ t382 t394 _ ?side1 ?side2 A13.out).mono ?_);(case side1=>repeat (first | exact (Kd.R_reads' HO386.out).2.2 | (with_reducible refine Kd.C_alloc ?_ _) | (with_reducible refine Kd.C_drewN ?_ _) | (with_reducible refine Kd.C_drew ?_)));(case side2=>exact (Kd.R_reads' HO386.out).2.1);rintro e w20 ⟨rfl,hb⟩;have n0_:=Aside0.mk (Kd.R_below (by (with_reducible repeat (first | apply Kd.R_alloc | apply Kd.R_drewN | apply Kd.R_drew));exact HO386.out) hb);have n1_:=Aside0.mk (Kd.S_below (by (with_reducible repeat (first | apply Kd.S_alloc | apply Kd.S_drewN | apply Kd.S_drew));exact HO388.out) hb);have n2_:=Aside0.mk (below_step (by repeat (first | (with_reducible first | exact HB.out | apply below_alloc | apply pw_below_drewN | apply below_drew1) | exact HB.out)) hb);clear HO386;clear HO388;clear HB;have HO386:=n0_;have HO388:=n1_;have HB:=n2_;clear n0_ n1_ n2_;(try clear hb)) | (go_at_call 22;(with_reducible refine (numnahlaw01_awake.calls  t395 _ A15.out).mono ?_);rintro e w21 ⟨rfl,hb⟩;have n0_:=Aside0.mk (Kd.R_below (by (with_reducible repeat (first | apply Kd.R_alloc | apply Kd.R_drewN | apply Kd.R_drew));exact HO386.out) hb);have n1_:=Aside0.mk (Kd.S_below (by (with_reducible repeat (first | apply Kd.S_alloc | apply Kd.S_drewN | apply Kd.S_drew));exact HO388.out) hb);have n2_:=Aside0.mk (below_step (by repeat (first | (with_reducible first | exact HB.out | apply below_alloc | apply pw_below_drewN | apply below_drew1) | exact HB.out)) hb);clear HO386;clear HO388;clear HB;have HO386:=n0_;have HO388:=n1_;have HB:=n2_;clear n0_ n1_ n2_;(try clear hb)))
 go_ret
 exact ⟨by first | rfl | (simp [errW_none,errW_some] <;> rfl) | (simp [*,errW_none,errW_some] <;> rfl),by repeat (first | (with_reducible first | exact HB.out | apply below_alloc | apply pw_below_drewN | apply below_drew1) | exact HB.out)⟩
noncomputable def numnahlaw01_CardWeights.Pure:Prop:=∀ (a0:ByteArray),a0.size ≤ 140737488351232 → ∃ k,numnahlaw01_CardWeights.f k a0 = some true
theorem numnahlaw01_CardWeights.walk (P:numnahlaw01_CardWeights.Pure) (a0:ByteArray) (w:World) (w0:a0.size ≤ 140737488351232) :
  Calls Try.prog 8 #[.string a0] w fun e w'=>e = .returned (.bool true) ∧ Below w.heap.size w w':=by
 obtain ⟨k,h⟩:=P a0 w0
 refine (numnahlaw01_CardWeights.calls k a0 true w h).mono ?_
 rintro e w' ⟨rfl,hd⟩
 exact ⟨rfl,hd⟩
end Go.Proofs.Ythpahlkhiknofaa.G
set_option linter.unusedSectionVars false
namespace Go.Proofs.Ythpahlkhiknofaa.P
open Go Go.RowKit Go.Proofs.Ythpahlkhiknofaa.M Go.Proofs.Ythpahlkhiknofaa.G Go.Proofs.Ythpahlkhiknofaa.H
open Go.Proofs.YthpahlkhiknofaaW.PrintWords Go.Proofs.YthpahlkhiknofaaW.PrintMore
theorem weights_no {c:ByteArray} (hc:c.size ≤ 40) (h:totB c = false):card_Weights.f c = some ([],[],2):=by
 obtain ⟨m,hm,e⟩:=newT hc
 unfold card_Weights.f
 rw [e,Option.bind_some,if_pos ⟨rfl,by show c.size ≤ 1000;omega,fun h2=>by rw [show (m,c,totB c).2.2 = totB c from rfl,h] at h2;cases h2⟩,if_neg (by show ¬ totB c = true;rw [h];decide)]
def GoodW (c:ByteArray) (ws:List Int):Prop:=ws.length = fnN c + 1 ∧ bad60 ws = false ∧ allF (okR c ws (fnN c)) c.size 0 = true
theorem weights_yes {c:ByteArray} (hc:c.size ≤ 40) (h:totB c = true):(∃ ws,card_Weights.f c = some (ws,[],0) ∧ GoodW c ws) ∨ ∃ bs,card_Weights.f c = some ([],bs,0) ∧ bs.length = 2 ∧ isBal c (fnN c) bs = true:=by
 obtain ⟨m,hm,e⟩:=newT hc
 have hT:=tot_of hc h
 have h5:=hT.n5
 have:=hm h
 subst this
 have hok:okT c (fnN c:Int) c (totB c):=⟨rfl,by omega,fun _=>⟨by omega,by omega⟩⟩
 unfold card_Weights.f
 rw [e,Option.bind_some,if_pos hok,if_pos h]
 simp only [Int.toNat_natCast]
 by_cases he:∃ xs,EndsAt (fnN c) c xs
 ·rw [dif_pos he]
  exact .inl ⟨_,rfl,ends_good hT he.choose_spec⟩
 ·rw [dif_neg he]
  have hr:∃ r,RepAt (fnN c) c r:=(some_end hT).resolve_left he
  rw [dif_pos hr]
  exact .inr ⟨_,rfl,rfl,rep_good hT hr.choose_spec⟩
theorem good_ref {c:ByteArray} (hc:c.size ≤ 40) (h:totB c = true) {ws:List Int} (g:GoodW c ws):Ev (fun k=>numnahref01_Weights.f k ws (fnN c:Int)) true ∧ Ev (fun k=>numnahref01_Realize.f k c ws) true ∧ card_Realize.f c ws = some 0:=by
 obtain ⟨g1,g2,g3⟩:=g
 have hT:=tot_of hc h
 have h5:=hT.n5
 refine ⟨?_,?_,?_⟩
 ·have:=rweights_l0 (l:=ws) (by omega) h5 ws.length 0 (by omega)
  rw [List.drop_zero] at this
  have hgb:ws.any (fun x=>!decide (-1000000 ≤ x ∧ x ≤ 1000000)) = false:=g2
  rw [hgb,decide_eq_true g1] at this
  exact this
 ·have er:Ev (fun k=>numnahref01_Realize.f k c ws) (allF (okR c ws (fnN c)) c.size 0):=by
   unfold numnahref01_Realize.f
   exact Ev.bind (ev_vars hc) (rreal_l0 h5 g1 hc (bad_sm g2) c.size 0 (by omega))
  rw [g3] at er
  exact er
 ·rw [realize_f hc (by omega),if_pos h,if_pos ⟨g1,g2⟩,if_pos g3]
theorem weights_pure (a0:ByteArray):∃ k,numnahlaw01_CardWeights.f k a0 = some true:=by
 refine Ev.rounds ?_
 unfold numnahlaw01_CardWeights.f
 obtain ⟨c,hc,e0⟩:=short_f a0
 rw [e0]
 simp only [Option.bind_some]
 have et:=ev_rtotal hc
 by_cases h:totB c = true
 ·rw [h] at et
  have hT:=tot_of hc h
  have h5:=hT.n5
  rcases weights_yes hc h with ⟨ws,ew,g⟩ | ⟨bs,ew,h2,hb⟩
  ·obtain ⟨r1,r2,r3⟩:=good_ref hc h g
   rw [ew]
   refine Ev.congr (fun k=>Option.bind_some _ _) ?_
   refine Ev.bind et (Ev.congr (fun k=>if_pos rfl) (Ev.congr (fun k=>if_pos rfl) (Ev.congr (fun k=>if_pos rfl) (Ev.bind (ev_vars hc) (Ev.bind r1 (Ev.congr (fun k=>if_pos rfl) (Ev.bind r2 (Ev.congr (fun k=>if_pos rfl) ?_))))))))
   rw [r3]
   exact Ev.congr (fun k=>Option.bind_some _ _) (Ev.congr (fun k=>if_pos rfl) ev_aw)
  ·have er:=ev_rbal hc h5 rfl bs
   rw [hb] at er
   rw [ew]
   refine Ev.congr (fun k=>Option.bind_some _ _) ?_
   refine Ev.bind et (Ev.congr (fun k=>if_pos rfl) (Ev.congr (fun k=>if_pos rfl) (Ev.congr (fun k=>if_neg (by show ¬ ((bs.length:Int) = 0);omega)) (Ev.congr (fun k=>if_pos rfl) (Ev.bind er (Ev.congr (fun k=>if_pos rfl) ?_))))))
   have eb:=balance_f hc (ls:=bs) (by omega)
   rw [if_pos h,if_pos hb] at eb
   have eb':card_Balance.f c (([]:List Int),bs,(0:Int)).2.1 = some 0:=eb
   rw [eb']
   exact Ev.congr (fun k=>Option.bind_some _ _) (Ev.congr (fun k=>if_pos rfl) ev_aw)
 ·have h':totB c = false:=by simpa using h
  rw [h'] at et
  rw [weights_no hc h']
  refine Ev.congr (fun k=>Option.bind_some _ _) ?_
  exact Ev.bind et (Ev.congr (fun k=>if_neg (by decide)) (Ev.congr (fun k=>if_pos rfl) (Ev.congr (fun k=>if_pos rfl) (Ev.congr (fun k=>if_pos rfl) ev_aw))))
theorem weights_Pure:numnahlaw01_CardWeights.Pure:=fun a0 _=>weights_pure a0
end Go.Proofs.Ythpahlkhiknofaa.P
