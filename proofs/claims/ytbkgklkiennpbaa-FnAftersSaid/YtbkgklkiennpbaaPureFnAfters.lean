/- For every byte list: of at most 2^20 bytes, in the program drawn from it the afters of a node are what the law asks of them: the node itself and the exit are among them, each is after the node and, but for the node, after the first one, which is among them; of a longer one the law asks nothing. -/
import Derived.Test.YtbkgklkiennpbaaHGFnAftersStmt
import Derived.Test.YtbkgklkiennpbaaKitHG
set_option linter.unusedVariables false
set_option linter.unusedSimpArgs false
namespace Go.Proofs.Ytbkgklkiennpbaa.Pure
open Go.RowKit Go.Proofs.Ytbkgklkiennpbaa.HG Go.Proofs.YtbkgklkiennpbaaW.PrintWords Go.Proofs.YtbkgklkiennpbaaW.PrintLast Go.Proofs.Ytbkgklkiennpbaa.Aid

theorem isAfterV_ev (l : List S52) (a b : Int) : Ev (fun k => impl_IsAfter.f k l a b) ((progB l && inB a 0 (l.length : Int)) && inB b 0 (l.length : Int) && aftB l a b) := by
  cases hp : progB l with
  | false =>
    refine Ev.congr (fun k => ?_) (ev_some _)
    unfold impl_IsAfter.f
    rw [isNode_val, hp]
    rfl
  | true =>
    cases ha : inB a 0 (l.length : Int) with
    | false =>
      refine Ev.congr (fun k => ?_) (ev_some _)
      unfold impl_IsAfter.f
      rw [isNode_val, hp, ha]
      rfl
    | true =>
      have ha' := inB_iff.1 ha
      obtain ⟨K, hK⟩ := isAfter_ev hp b ha'.1 ha'.2
      refine ⟨K, fun k hk => ?_⟩
      have hk' : impl_isAfter.f k l a b = some (aftB l a b) := hK k hk
      show impl_IsAfter.f k l a b = some _
      unfold impl_IsAfter.f
      rw [isNode_val, hp, ha, Option.bind_some, if_pos (show (true && true) = true from rfl), isNode_val, hp, hk']
      cases inB b 0 (l.length : Int) <;> rfl
theorem isAfter_at {l : List S52} (hp : progB l = true) {a b : Int} (a0 : 0 ≤ a) (a1 : a ≤ (l.length : Int)) (b0 : 0 ≤ b) (b1 : b ≤ (l.length : Int)) : Ev (fun k => impl_IsAfter.f k l a b) (aftB l a b) := by
  have h := isAfterV_ev l a b
  rw [hp, inB_iff.2 ⟨a0, a1⟩, inB_iff.2 ⟨b0, b1⟩] at h
  exact h
theorem aft_iff {l : List S52} {a b : Int} : aftB l a b = true ↔ Rch (nxt l) (-1) [a] (l.length : Int) ∧ ¬ Rch (nxt l) b [a] (l.length : Int) := by
  unfold aftB
  rw [Bool.and_eq_true, rset_at (by omega) (by omega), Bool.not_eq_true', ← Bool.not_eq_true, rset_at (by omega) (by omega)]
noncomputable def aset (l : List S52) (a : Int) : List Bool := (List.range (l.length + 1)).map fun i : Nat => aftB l a (i : Int)
theorem aset_at {l : List S52} {a x : Int} (h0 : 0 ≤ x) (h1 : x ≤ (l.length : Int)) : rdOf false (aset l a) x = aftB l a x := by
  unfold rdOf aset
  have hx : x.toNat < l.length + 1 := by omega
  have e : ((x.toNat : Nat) : Int) = x := by omega
  rw [List.getD_eq_getElem?_getD, List.getElem?_map, List.getElem?_range hx]
  simp [e]
noncomputable def afts (l : List S52) (a : Int) : List Int := idxTo (aset l a) (l.length + 1)
theorem afts_mem {l : List S52} {a x : Int} : x ∈ afts l a ↔ 0 ≤ x ∧ x ≤ (l.length : Int) ∧ aftB l a x = true := by
  unfold afts
  rw [idxTo_mem]
  constructor
  · rintro ⟨h0, h1, h2⟩
    exact ⟨h0, by omega, by rw [← aset_at h0 (by omega)]; exact h2⟩
  · rintro ⟨h0, h1, h2⟩
    exact ⟨h0, by omega, by rw [aset_at h0 h1]; exact h2⟩
theorem afters_ev {l : List S52} (hp : progB l = true) {a : Int} (a0 : 0 ≤ a) (a1 : a ≤ (l.length : Int)) : Ev (fun k => impl_AftersOf.f k l a) (afts l a) := by
  have hs := prog_small hp
  have h := loop_to (fun k n (s : List Int) => impl_AftersOf.l0 k l a s ((l.length + 1 : Nat) : Int) (n : Int)) (l.length + 1) (fun n s => s = idxTo (aset l a) n) (afts l a)
    (fun n s hn hI => Or.inl ⟨idxTo (aset l a) (n + 1), rfl, by
      obtain ⟨K, hK⟩ := isAfter_at hp a0 a1 (b := (n : Int)) (by omega) (by omega)
      refine ⟨K, fun k hk => ?_⟩
      have hk' : impl_IsAfter.f k l a (n : Int) = some (aftB l a (n : Int)) := hK k hk
      have hs : s = idxTo (aset l a) n := hI
      subst hs
      have hlen := idxTo_len (aset l a) n
      simp only [impl_AftersOf.l0]
      rw [if_pos (by omega), hk', Option.bind_some, idxTo_succ, aset_at (by omega) (by omega), wrap_succ hn (by omega)]
      by_cases h : aftB l a (n : Int) = true
      · rw [if_pos h, if_pos (by omega), if_pos h]
      · rw [if_neg h, if_neg h, List.append_nil]⟩)
    (fun s hI => ⟨0, fun k _ => by
      have hs : s = idxTo (aset l a) (l.length + 1) := hI
      simp only [impl_AftersOf.l0]
      rw [if_neg (by omega), hs]; rfl⟩) 0 [] (Nat.zero_le _) rfl
  refine Ev.congr (fun k => ?_) h
  unfold impl_AftersOf.f
  rw [wrap_succ (n := l.length) (N := l.length + 1) (by omega) (by omega)]
  rfl
theorem ev_allP {P : Nat → Int → Prop} : ∀ {R : List Int}, (∀ x ∈ R, ∃ K, ∀ k, K ≤ k → P k x) → ∃ K, ∀ k, K ≤ k → ∀ x ∈ R, P k x := by
  intro R
  induction R with
  | nil => intro _; exact ⟨0, fun k _ x hx => by cases hx⟩
  | cons a R ih =>
    intro h
    obtain ⟨K1, h1⟩ := h a List.mem_cons_self
    obtain ⟨K2, h2⟩ := ih (fun x hx => h x (List.mem_cons_of_mem _ hx))
    refine ⟨K1 + K2, fun k hk x hx => ?_⟩
    rcases List.mem_cons.1 hx with rfl | hx
    · exact h1 k (by omega)
    · exact h2 k (by omega) x hx
noncomputable def pickF (l : List S52) (L : List Int) : List Int → Int
  | [] => -1
  | a :: R => if (L.any fun b => !aftB l a b) = true then pickF l L R else a
theorem pickF_spec {l : List S52} {L : List Int} : ∀ {R : List Int}, (∃ x ∈ R, ∀ b ∈ L, aftB l x b = true) → pickF l L R ∈ R ∧ ∀ b ∈ L, aftB l (pickF l L R) b = true
  | [], h => by obtain ⟨x, hx, _⟩ := h; cases hx
  | a :: R, h => by
    unfold pickF
    by_cases e : (L.any fun b => !aftB l a b) = true
    · rw [if_pos e]
      obtain ⟨x, hx, hb⟩ := h
      rcases List.mem_cons.1 hx with rfl | hx
      · obtain ⟨b, hb1, hb2⟩ := List.any_eq_true.1 e
        rw [hb b hb1] at hb2
        cases hb2
      · have := pickF_spec (R := R) ⟨x, hx, hb⟩
        exact ⟨List.mem_cons_of_mem _ this.1, this.2⟩
    · rw [if_neg e]
      refine ⟨List.mem_cons_self, fun b hb => ?_⟩
      cases hab : aftB l a b
      · exact absurd (List.any_eq_true.2 ⟨b, hb, by rw [hab]; rfl⟩) e
      · rfl
theorem firstOf_ev {l : List S52} (hp : progB l = true) {L : List Int} (hL : ∀ x ∈ L, 0 ≤ x ∧ x ≤ (l.length : Int)) : Ev (fun k => impl_firstOf.f k l L) (pickF l L L) := by
  obtain ⟨K, hK⟩ := ev_allP (P := fun k a => ∀ b ∈ L, impl_firstOf.at k l a b = some (!aftB l a b)) (R := L) (fun a ha => by
    have ha' := hL a ha
    obtain ⟨K, hK⟩ := ev_allP (P := fun k b => impl_firstOf.at k l a b = some (!aftB l a b)) (R := L) (fun b _ => by
      obtain ⟨K, hK⟩ := isAfter_ev hp b ha'.1 ha'.2
      refine ⟨K, fun k hk => ?_⟩
      have hk' : impl_isAfter.f k l a b = some (aftB l a b) := hK k hk
      unfold impl_firstOf.at
      rw [hk']; rfl)
    exact ⟨K, hK⟩)
  refine ⟨K, fun k hk => ?_⟩
  have hk' := hK k hk
  have go : ∀ R : List Int, (∀ x ∈ R, x ∈ L) → impl_firstOf.go k l L R = some (pickF l L R) := by
    intro R
    induction R with
    | nil => intro _; rfl
    | cons a R ih =>
      intro hR
      have ha := hk' a (hR a List.mem_cons_self)
      unfold impl_firstOf.go pickF
      have a1 : L.all (fun b => (impl_firstOf.at k l a b).isSome) = true := by
        rw [List.all_eq_true]; intro b hb; rw [ha b hb]; rfl
      have a2 : (L.any fun b => impl_firstOf.at k l a b == some true) = L.any fun b => !aftB l a b := by
        rw [Bool.eq_iff_iff, List.any_eq_true, List.any_eq_true]
        constructor
        · rintro ⟨x, hx, h⟩
          rw [ha x hx] at h
          exact ⟨x, hx, by simpa using h⟩
        · rintro ⟨x, hx, h⟩
          refine ⟨x, hx, ?_⟩
          rw [ha x hx, h]; rfl
      rw [if_pos a1, a2, ih (fun x hx => hR x (List.mem_cons_of_mem _ hx))]
      split <;> rfl
  exact go L (fun x hx => hx)
theorem FnAfters : laws_FnAfters.PureH := by
  intro b h8 _
  unfold laws_FnAfters.f laws_big.f
  by_cases hb : (b.length : Int) > 1048576
  · exact ⟨0, by rw [Option.bind_some, if_pos (by simpa using hb)]⟩
  obtain ⟨p, ⟨K1, h1⟩, hp, h8⟩ := wild_ok (b := b) (by omega)
  obtain ⟨l, ⟨K2, h2⟩, hl, hpl⟩ := places_ok (b := b) (by omega)
  have hy := hpl (rd l 0) (rd_in (by omega) (by omega))
  have hw : wrap64 ((p.length : Int) + 1) = (p.length : Int) + 1 := wrap_id (by omega) (by omega)
  have ha : ∃ a : Int, Int.tmod (rd l 0) (wrap64 ((p.length : Int) + 1)) = a ∧ 0 ≤ a ∧ a ≤ (p.length : Int) := by
    rw [hw, Int.tmod_eq_emod_of_nonneg hy.1]
    have g1 := Int.emod_nonneg (rd l 0) (show ((p.length : Int) + 1) ≠ 0 by omega)
    have g2 := Int.emod_lt_of_pos (rd l 0) (show 0 < (p.length : Int) + 1 by omega)
    exact ⟨_, rfl, g1, by omega⟩
  obtain ⟨a, ea, a0, a1⟩ := ha
  have hin : inB a 0 (p.length : Int) = true := inB_iff.2 ⟨a0, a1⟩
  obtain ⟨K3, h3⟩ := afters_ev hp a0 a1
  have hex : exitB p a = true ↔ Rch (nxt p) (-1) [a] (p.length : Int) := by
    unfold exitB
    rw [hp, hin, if_pos (show (true && true) = true from rfl)]
    exact rset_at (by omega) (by omega)
  obtain ⟨K4, h4⟩ := reachesExit_ev p a
  generalize hA : afts p a = A at h3
  have hmem : ∀ x, x ∈ A ↔ 0 ≤ x ∧ x ≤ (p.length : Int) ∧ aftB p a x = true := fun x => by rw [← hA]; exact afts_mem
  have hAl : A.length ≤ 1048576 := by
    rw [← hA]
    have := idxTo_len (aset p a) (p.length + 1)
    have := prog_small hp
    unfold afts
    omega
  obtain ⟨L, hLd⟩ : ∃ L, L = A.filter (fun x => !(x == a)) := ⟨_, rfl⟩
  have hD : ∀ x, x ∈ L ↔ x ∈ A ∧ x ≠ a := fun x => by rw [hLd, List.mem_filter]; simp
  have hLr : ∀ x ∈ L, 0 ≤ x ∧ x ≤ (p.length : Int) := fun x hx => by
    have := (hmem x).1 ((hD x).1 hx).1
    exact ⟨this.1, this.2.1⟩
  obtain ⟨K5, h5⟩ := firstOf_ev hp hLr
  have first : ∀ k, K3 + K5 ≤ k → impl_FirstAfter.f k p a = some (pickF p L L) := fun k hk => by
    have e3 : impl_AftersOf.f k p a = some A := h3 k (by omega)
    have e5 : impl_firstOf.f k p L = some (pickF p L L) := h5 k (by omega)
    unfold impl_FirstAfter.f
    rw [e3, Option.bind_some, ← hLd]
    exact e5
  by_cases hx : exitB p a = true
  · have hr := hex.1 hx
    have haA : a ∈ A := (hmem a).2 ⟨a0, a1, aft_iff.2 ⟨hr, fun h => Rch.self h⟩⟩
    have heA : (p.length : Int) ∈ A := (hmem _).2 ⟨by omega, by omega, aft_iff.2 ⟨hr, fun h => Rch.not_w h rfl⟩⟩
    have hf : (a = (p.length : Int) ∧ pickF p L L = -1 ∧ L = []) ∨ (a ≠ (p.length : Int) ∧ pickF p L L ∈ L ∧ ∀ y ∈ L, aftB p (pickF p L L) y = true) := by
      by_cases hae : a = (p.length : Int)
      · have hnil : L = [] := by
          rw [List.eq_nil_iff_forall_not_mem]
          intro x hx
          obtain ⟨g1, g2⟩ := (hD x).1 hx
          have g3 := ((hmem x).1 g1).2.2
          exact (aft_iff.1 g3).2 (.start (List.mem_singleton.2 hae.symm) (fun e => g2 (e.symm.trans hae.symm)))
        exact .inl ⟨hae, by rw [hnil]; rfl, hnil⟩
      · obtain ⟨x, hxL, hxy⟩ := first_on (nx := nxt p) (D := fun d => d ∈ L) (a := a) (e := (p.length : Int)) (fun h => ((hD a).1 h).2 rfl) (fun d hd => (aft_iff.1 ((hmem d).1 ((hD d).1 hd).1).2.2).2) hr ((hD _).2 ⟨heA, Ne.symm hae⟩)
        exact .inr ⟨hae, pickF_spec ⟨x, hxL, fun y hy => aft_iff.2 (hxy y hy)⟩⟩
    generalize pickF p L L = f at hf first
    have loop := loop_to (fun k n (_ : Unit) => laws_FnAfters.l0 k p a A f (n : Int)) A.length (fun _ _ => True) true
      (fun n s hn _ => Or.inl ⟨(), trivial, by
        have hv : rd A (n : Int) ∈ A := rd_in (by omega) (by omega)
        generalize hve : rd A (n : Int) = v at hv
        obtain ⟨v0, v1, hva⟩ := (hmem v).1 hv
        obtain ⟨K6, h6⟩ := isAfter_at hp a0 a1 v0 v1
        by_cases hav : v = a
        · refine ⟨K6, fun k hk => ?_⟩
          have e6 : impl_IsAfter.f k p a v = some (aftB p a v) := h6 k hk
          simp only [laws_FnAfters.l0]
          rw [if_pos (by omega), if_pos (by omega), hve, e6, hva, Option.bind_some, if_pos rfl, if_pos hav, wrap_succ hn (by omega)]
        · have hvL := (hD v).2 ⟨hv, hav⟩
          rcases hf with ⟨_, _, hnil⟩ | ⟨hae, hfL, hfy⟩
          · rw [hnil] at hvL; cases hvL
          · have hfr := hLr f hfL
            obtain ⟨K7, h7⟩ := isAfter_at hp hfr.1 hfr.2 v0 v1
            refine ⟨K6 + K7, fun k hk => ?_⟩
            have e6 : impl_IsAfter.f k p a v = some (aftB p a v) := h6 k (by omega)
            have e7 : impl_IsAfter.f k p f v = some (aftB p f v) := h7 k (by omega)
            simp only [laws_FnAfters.l0]
            rw [if_pos (by omega), if_pos (by omega), hve, e6, hva, Option.bind_some, if_pos rfl, if_neg hav, e7, hfy v hvL, Option.bind_some, if_pos rfl, wrap_succ hn (by omega)]⟩)
      (fun s _ => by
        rcases hf with ⟨_, hf1, _⟩ | ⟨hae, hfL, _⟩
        · refine ⟨0, fun k _ => ?_⟩
          simp only [laws_FnAfters.l0]
          rw [if_neg (by omega), if_pos hf1]
        · have hfr := hLr f hfL
          have hfA := (hD f).1 hfL
          obtain ⟨K8, h8⟩ := has_ev A hAl f
          refine ⟨K8, fun k hk => ?_⟩
          have e8 : laws_has.f k A f = some (decide (f ∈ A)) := h8 k hk
          simp only [laws_FnAfters.l0]
          rw [if_neg (by omega), if_neg (by omega), e8, Option.bind_some, if_pos (by simpa using hfA.1)]
          simp [hfA.2]) 0 () (Nat.zero_le _) trivial
    obtain ⟨K6, h6⟩ := loop
    obtain ⟨K7, h7⟩ := has_ev A hAl a
    obtain ⟨K8, h8'⟩ := has_ev A hAl (p.length : Int)
    refine ⟨K1 + K2 + K3 + K4 + K5 + K6 + K7 + K8 + 1, ?_⟩
    have e1 : spec_DrawWild.f (K1 + K2 + K3 + K4 + K5 + K6 + K7 + K8 + 1) b = some p := h1 _ (by omega)
    have e2 : spec_DrawPlaces.f (K1 + K2 + K3 + K4 + K5 + K6 + K7 + K8 + 1) b = some l := h2 _ (by omega)
    have e3 : impl_AftersOf.f (K1 + K2 + K3 + K4 + K5 + K6 + K7 + K8 + 1) p a = some A := h3 _ (by omega)
    have e4 : impl_ReachesExit.f (K1 + K2 + K3 + K4 + K5 + K6 + K7 + K8 + 1) p a = some (exitB p a) := h4 _ (by omega)
    have e5 := first (K1 + K2 + K3 + K4 + K5 + K6 + K7 + K8 + 1) (by omega)
    have e6 : laws_FnAfters.l0 (K1 + K2 + K3 + K4 + K5 + K6 + K7 + K8) p a A f 0 = some true := h6 _ (by omega)
    have e7 : laws_has.f (K1 + K2 + K3 + K4 + K5 + K6 + K7 + K8 + 1) A a = some (decide (a ∈ A)) := h7 _ (by omega)
    have e8 : laws_has.f (K1 + K2 + K3 + K4 + K5 + K6 + K7 + K8 + 1) A (p.length : Int) = some (decide ((p.length : Int) ∈ A)) := h8' _ (by omega)
    have hc : ((f == (-1)) != (a == (p.length : Int))) = false := by
      rcases hf with ⟨hae, hf1, _⟩ | ⟨hae, hfL, _⟩
      · simp [hae, hf1]
      · have hfr := hLr f hfL
        have g1 : (f == -1) = false := beq_eq_false_iff_ne.2 (by omega)
        have g2 : (a == (p.length : Int)) = false := beq_eq_false_iff_ne.2 hae
        rw [g1, g2]; rfl
    rw [Option.bind_some, if_neg (by simpa using hb), e1, Option.bind_some, e2, Option.bind_some, if_pos (by omega), if_neg (by omega), ea, e3, Option.bind_some, e5, Option.bind_some, e4, Option.bind_some, if_pos hx, e7, Option.bind_some, if_pos (by simpa using haA), e8, Option.bind_some, if_pos (by simpa using heA), hc]
    simp only [laws_FnAfters.j0]
    rw [if_neg (by decide), e6]
  · have hnil : A = [] := by
      rw [List.eq_nil_iff_forall_not_mem]
      intro x hxA
      exact hx (hex.2 (aft_iff.1 ((hmem x).1 hxA).2.2).1)
    have hLn : L = [] := by rw [hLd, hnil]; rfl
    refine ⟨K1 + K2 + K3 + K4 + K5, ?_⟩
    have e1 : spec_DrawWild.f (K1 + K2 + K3 + K4 + K5) b = some p := h1 _ (by omega)
    have e2 : spec_DrawPlaces.f (K1 + K2 + K3 + K4 + K5) b = some l := h2 _ (by omega)
    have e3 : impl_AftersOf.f (K1 + K2 + K3 + K4 + K5) p a = some A := h3 _ (by omega)
    have e4 : impl_ReachesExit.f (K1 + K2 + K3 + K4 + K5) p a = some (exitB p a) := h4 _ (by omega)
    have e5 := first (K1 + K2 + K3 + K4 + K5) (by omega)
    rw [Option.bind_some, if_neg (by simpa using hb), e1, Option.bind_some, e2, Option.bind_some, if_pos (by omega), if_neg (by omega), ea, e3, Option.bind_some, e5, Option.bind_some, e4, Option.bind_some, if_neg hx, hnil, hLn]
    rfl

end Go.Proofs.Ytbkgklkiennpbaa.Pure
