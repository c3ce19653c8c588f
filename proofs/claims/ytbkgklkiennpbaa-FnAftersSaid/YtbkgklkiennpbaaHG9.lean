-- by hprint.py (wip/tools) over the kit's print.py: this session's text; Lean checks it
import Derived.Test.YtbkgklkiennpbaaHG0
import Derived.Test.YtbkgklkiennpbaaHG8
namespace Go.Proofs.Ytbkgklkiennpbaa.HG
open Go.RowKit Go.Proofs.YtbkgklkiennpbaaW.PrintWords Go.Proofs.YtbkgklkiennpbaaW.PrintLast Go.Proofs.YtbkgklkiennpbaaW.PrintMore
attribute [local go_sem] max2_int min2_int max_two min_two max_three min_three max_four min_four   -- for this text's walks alone
set_option linter.unusedVariables false
set_option linter.unusedSimpArgs false

/-! ### impl_firstOf: function 49 -/
def impl_firstOf.at (k : Nat) (l0 : List S52) (a b : Int) : Option (Bool) := (impl_isAfter.f k l0 a b).bind fun t => some (!t)
def impl_firstOf.go (k : Nat) (l0 : List S52) (L : List Int) : List Int → Option Int
  | [] => some (-1)
  | a :: rest => if L.all (fun b => (impl_firstOf.at k l0 a b).isSome) = true then (if (L.any fun b => impl_firstOf.at k l0 a b == some true) = true then impl_firstOf.go k l0 L rest else some a) else none
def impl_firstOf.f (k : Nat) (l0 : List S52) (l1 : List Int) : Option Int := impl_firstOf.go k l0 l1 l1
theorem impl_firstOf.mono_at (k : Nat) (l0 : List S52) (a b : Int) : LeO (impl_firstOf.at k l0 a b) (impl_firstOf.at (k + 1) l0 a b) := by
  unfold impl_firstOf.at
  exact LeO.bind (impl_isAfter.mono _ _ _ _) fun t => LeO.refl _
theorem impl_firstOf.mono_go (k : Nat) (l0 : List S52) (L : List Int) : ∀ R, LeO (impl_firstOf.go k l0 L R) (impl_firstOf.go (k + 1) l0 L R) := by
  intro R
  induction R with
  | nil => exact LeO.refl _
  | cons a R ih =>
    intro r h
    unfold impl_firstOf.go at h ⊢
    by_cases h1 : L.all (fun b => (impl_firstOf.at k l0 a b).isSome) = true
    · rw [if_pos h1] at h
      have he : ∀ x ∈ L, impl_firstOf.at (k + 1) l0 a x = impl_firstOf.at k l0 a x := by
        intro x hx
        obtain ⟨b, hb⟩ := Option.isSome_iff_exists.1 (List.all_eq_true.1 h1 x hx)
        rw [hb]
        exact impl_firstOf.mono_at k l0 a x b hb
      have h2 : L.all (fun x => (impl_firstOf.at (k + 1) l0 a x).isSome) = true := by
        rw [List.all_eq_true] at h1 ⊢
        intro x hx
        rw [he x hx]
        exact h1 x hx
      have h3 : (L.any fun x => impl_firstOf.at (k + 1) l0 a x == some true) = L.any fun x => impl_firstOf.at k l0 a x == some true := by
        rw [Bool.eq_iff_iff, List.any_eq_true, List.any_eq_true]
        exact ⟨fun ⟨x, hx, h⟩ => ⟨x, hx, by rw [← he x hx]; exact h⟩, fun ⟨x, hx, h⟩ => ⟨x, hx, by rw [he x hx]; exact h⟩⟩
      rw [if_pos h2, h3]
      by_cases h4 : (L.any fun b => impl_firstOf.at k l0 a b == some true) = true
      · rw [if_pos h4] at h ⊢
        exact ih r h
      · rw [if_neg h4] at h ⊢
        exact h
    · rw [if_neg h1] at h
      cases h
theorem impl_firstOf.mono : ∀ l0 l1 k, LeO (impl_firstOf.f k l0 l1) (impl_firstOf.f (k + 1) l0 l1) := fun l0 l1 k => impl_firstOf.mono_go k l0 l1 l1
set_option maxHeartbeats 8000000 in
set_option maxRecDepth 100000 in
theorem impl_firstOf.inner (k : Nat) (A0 : Option Addr) (c0 : Nat) (l0 : List S52) (a x : Int) (b : Bool) (W : World) (B B2 : Nat) (hbox : W.cell? ⟨B, 0, none⟩ = some (.slice A0 l0.length c0)) (hbox2 : W.cell? ⟨B2, 0, none⟩ = some (.int .i64 a))
    (hr0 : Kd.C k52 W A0 l0.length l0) (hc0 : l0.length ≤ c0) (h : impl_firstOf.at k l0 a x = some b) :
    Calls Try.prog 71 #[.int .i64 x, .pointer (some ⟨B, 0, none⟩), .pointer (some ⟨B2, 0, none⟩)] W fun e w' => e = .returned (.bool b) ∧ Below W.heap.size W w' := by
  unfold impl_firstOf.at at h
  obtain ⟨t, ht, h⟩ := Option.bind_eq_some_iff.mp h
  obtain rfl := Option.some.inj h
  have hc := impl_isAfter.calls k A0 c0 l0 a x t W hr0 hc0 ht
  clear hr0 hc0 ht h
  generalize l0.length = ln at *
  go_enter Try.func71, Try.ntmps71
  go_wp2_with (go_at_call 52; refine hc.mono ?_; rintro e w' ⟨rfl, hb'⟩)
  go_ret
  exact ⟨rfl, hb'⟩
theorem impl_firstOf.pays (k : Nat) (A0 : Option Addr) (c0 : Nat) (l0 : List S52) (L : List Int) (a : Int) (w : World) (B B2 : Nat) (hB : B < w.heap.size) (hB2 : B2 < w.heap.size) (hbox : w.cell? ⟨B, 0, none⟩ = some (.slice A0 l0.length c0)) (hbox2 : w.cell? ⟨B2, 0, none⟩ = some (.int .i64 a))
    (hr0 : Kd.C k52 w A0 l0.length l0) (hc0 : l0.length ≤ c0) (hsome : L.all (fun x => (impl_firstOf.at k l0 a x).isSome) = true) :
    IdxI.Pays 71 #[.pointer (some ⟨B, 0, none⟩), .pointer (some ⟨B2, 0, none⟩)] (fun x => impl_firstOf.at k l0 a x == some true) L w := by
  intro W hb x hx
  obtain ⟨b, h⟩ := Option.isSome_iff_exists.1 (List.all_eq_true.1 hsome x hx)
  have e : (impl_firstOf.at k l0 a x == some true) = b := by rw [h]; cases b <;> rfl
  simp only [e]
  refine (impl_firstOf.inner k A0 c0 l0 a x b W B B2 ((hb.cell (p := ⟨B, 0, none⟩) hB).trans hbox) ((hb.cell (p := ⟨B2, 0, none⟩) hB2).trans hbox2) (Kd.C_below hr0 hb) hc0 h).mono ?_
  rintro e w' ⟨rfl, hb'⟩
  exact ⟨rfl, below_then hb hb.size hb'⟩
theorem impl_firstOf.step {k : Nat} {l0 : List S52} {L R : List Int} {r : Int} {n : Nat} (h : impl_firstOf.go k l0 L (R.drop n) = some r) (hn : n < R.length) :
    L.all (fun b => (impl_firstOf.at k l0 (rd R (n : Int)) b).isSome) = true ∧ ((L.any fun b => impl_firstOf.at k l0 (rd R (n : Int)) b == some true) = true ∧ impl_firstOf.go k l0 L (R.drop (n + 1)) = some r ∨ (L.any fun b => impl_firstOf.at k l0 (rd R (n : Int)) b == some true) = false ∧ r = rd R (n : Int)) := by
  have hd : R.drop n = rd R (n : Int) :: R.drop (n + 1) := by
    rw [List.drop_eq_getElem_cons hn]
    congr 1
    simp [rd, List.getD_eq_getElem?_getD, hn]
  rw [hd] at h
  unfold impl_firstOf.go at h
  by_cases h1 : L.all (fun b => (impl_firstOf.at k l0 (rd R (n : Int)) b).isSome) = true
  · rw [if_pos h1] at h
    refine ⟨h1, ?_⟩
    by_cases h2 : (L.any fun b => impl_firstOf.at k l0 (rd R (n : Int)) b == some true) = true
    · rw [if_pos h2] at h
      exact .inl ⟨h2, h⟩
    · rw [if_neg h2] at h
      exact .inr ⟨by simpa using h2, (Option.some.inj h).symm⟩
  · rw [if_neg h1] at h
    cases h
set_option maxHeartbeats 8000000 in
set_option maxRecDepth 100000 in
theorem impl_firstOf.calls (k : Nat) (A0 : Option Addr) (c0 : Nat) (l0 : List S52) (A1 : Option Addr) (c1 : Nat) (l1 : List Int) (r : Int) (w : World) (hr0 : Kd.C k52 w A0 l0.length l0) (hc0 : l0.length ≤ c0) (hr1 : Kd.C (Kd.int .i64) w A1 l1.length l1) (hc1 : l1.length ≤ c1) (h : impl_firstOf.f k l0 l1 = some r) :
    Calls Try.prog 49 #[.slice A0 l0.length c0, .slice A1 l1.length c1] w fun e w' => e = .returned (.int .i64 r) ∧ Below w.heap.size w w' := by
  have hlen : l1.length ≤ 9223372036854775807 := hr1.2.1
  have hal : ∀ W, Below w.heap.size w W → Below w.heap.size w (W.alloc (.cells #[.slice A0 l0.length c0] 24)) := fun W hb => below_alloc hb _
  have hB0 : w.heap.size < (w.alloc (.cells #[.slice A0 l0.length c0] 24)).heap.size := by simp
  have hbx0 : (w.alloc (.cells #[.slice A0 l0.length c0] 24)).cell? ⟨w.heap.size, 0, none⟩ = some (.slice A0 l0.length c0) := by simp
  have hw0 : Below w.heap.size w (w.alloc (.cells #[.slice A0 l0.length c0] 24)) := below_alloc (Below.refl _ _) _
  have HS := Aside0.mk (show impl_firstOf.go k l0 l1 (l1.drop 0) = some r from h)
  have HR0 := Aside0.mk hr0
  have HC0 := Aside0.mk hc0
  have HR1 := Aside0.mk hr1
  have HC1 := Aside0.mk hc1
  have HB0 := Aside0.mk hB0
  have HBX := Aside0.mk hbx0
  have HW0 := Aside0.mk hw0
  clear hr0 hc0 hr1 hc1 h hB0 hbx0 hw0 hal
  generalize hW1 : w.alloc (.cells #[.slice A0 l0.length c0] 24) = W1 at HB0 HBX HW0
  go_enter Try.func49, Try.ntmps49
  go_wp2
  clear hW1
  go_loopg [6, 9] l1.length (fun gg s6 s9 wr => ∃ x9 : Nat, s9 = .int .i64 (x9 : Int) ∧ x9 ≤ l1.length ∧ (l1.length : Int) - x9 ≤ gg ∧ Aside0 (Below W1.heap.size W1 wr) ∧ Aside0 (impl_firstOf.go k l0 l1 (l1.drop x9) = some r))
  case atStart => exact ⟨0, rfl, by omega, by omega, ⟨Below.refl _ _⟩, HS⟩
  case round =>
    obtain ⟨x9, rfl, h1, hg, HB, HG⟩ := hrel
    by_cases c2 : (x9 : Int) < (l1.length : Int)
    · obtain ⟨ad101, e101, hx101⟩ := Kd.at_int HR1.out (x9 : Int) (by omega) c2
      cases e101
      replace hx101 := pw_cell_below (below_then HW0.out HW0.out.size HB.out) hx101
      simp only [Int.toNat_natCast] at hx101
      obtain ⟨hall, hcase⟩ := impl_firstOf.step HG.out (by omega)
      have hB2 := HB0.out
      have hsz := HB.out.size
      have hbx := HBX.out
      have hcon : ∀ W2 : World, Below W1.heap.size W1 W2 → wr.heap.size < W2.heap.size → W2.cell? ⟨wr.heap.size, 0, none⟩ = some (.int .i64 (rd l1 (x9 : Int))) →
          Calls Try.prog 56 #[.slice (some ad101) l1.length c1, .func (.func 71) #[] #[.pointer (some ⟨w.heap.size, 0, none⟩), .pointer (some ⟨wr.heap.size, 0, none⟩)]] W2 fun e w' => e = .returned (.bool (l1.any fun b => impl_firstOf.at k l0 (rd l1 (x9 : Int)) b == some true)) ∧ Below W2.heap.size W2 w' := fun W2 hb hlt hc => by
        have hb' : Below w.heap.size w W2 := below_then HW0.out HW0.out.size hb
        exact IdxI.contains 71 _ (enters_of Try.func71 (by kernel_rfl) rfl) _ (some ad101) c1 l1 W2
          (impl_firstOf.pays k A0 c0 l0 l1 (rd l1 (x9 : Int)) W2 w.heap.size wr.heap.size (by have := hb.size; omega) hlt ((hb.cell (p := ⟨w.heap.size, 0, none⟩) hB2).trans hbx) hc (Kd.C_below HR0.out hb') HC0.out hall) (Kd.C_below HR1.out hb') HC1.out
      generalize hy : rd l1 (x9 : Int) = y at hx101 hcase hcon
      have HY := Aside0.mk hy
      clear hy hall
      generalize (l1.any fun b => impl_firstOf.at k l0 y b == some true) = q at hcase hcon
      have hcn := hcon (wr.alloc (.cells #[.int .i64 y] 3)) (below_alloc HB.out _) (by simp) (by simp)
      have hcl : (wr.alloc (.cells #[.int .i64 y] 3)).cell? ⟨wr.heap.size, 0, none⟩ = some (.int .i64 y) := by simp
      have hlt : wr.heap.size < (wr.alloc (.cells #[.int .i64 y] 3)).heap.size := by simp
      have hcw : ∀ w2 : World, Below (wr.alloc (.cells #[.int .i64 y] 3)).heap.size (wr.alloc (.cells #[.int .i64 y] 3)) w2 → w2.cell? ⟨wr.heap.size, 0, none⟩ = some (.int .i64 y) := fun w2 hb => (hb.cell (p := ⟨wr.heap.size, 0, none⟩) hlt).trans hcl
      have hbw : ∀ w2 : World, Below (wr.alloc (.cells #[.int .i64 y] 3)).heap.size (wr.alloc (.cells #[.int .i64 y] 3)) w2 → Below W1.heap.size W1 w2 := fun w2 hb => below_then (below_alloc HB.out _) (by have := HB.out.size; simp; omega) hb
      have HCW := Aside0.mk hcw
      have HBW := Aside0.mk hbw
      clear hcon hbx hcl hcw hbw hlt
      cases q with
      | true =>
        have HG2 := Aside0.mk (show impl_firstOf.go k l0 l1 (l1.drop (x9 + 1)) = some r from by
          rcases hcase with ⟨_, h⟩ | ⟨h, _⟩
          · exact h
          · cases h)
        clear hcase
        go_wp2_with (go_at_call 56; refine hcn.mono ?_; rintro e w2 ⟨rfl, hb2⟩)
        go_roundg (gk - 1)
        case measure => omega
        case rel => exact ⟨x9 + 1, by first | rfl | (simp; done) | (simp [*]; done), by omega, by omega, ⟨HBW.out _ hb2⟩, HG2⟩
      | false =>
        have HE := Aside0.mk (show r = y from by
          rcases hcase with ⟨h, _⟩ | ⟨_, h⟩
          · cases h
          · exact h)
        clear hcase
        go_wp2_with (go_at_call 56; refine hcn.mono ?_; rintro e w2 ⟨rfl, hb2⟩; have hbx2 := HCW.out _ hb2)
        go_ret
        exact ⟨by rw [HE.out]; rfl, below_then HW0.out HW0.out.size (HBW.out _ hb2)⟩
    · have c3 : x9 = l1.length := by omega
      have HC := Aside0.mk c3
      have HR := Aside0.mk (show r = -1 from by
        have := HG.out
        rw [c3, List.drop_length] at this
        exact (Option.some.inj this).symm)
      clear c3
      go_wp2
      go_ret
      exact ⟨by rw [HR.out]; rfl, below_then HW0.out HW0.out.size HB.out⟩

/-! ### impl_FirstAfter: function 29 -/
def impl_FirstAfter.f (k : Nat) (l0 : List S52) (a1 : Int) : Option Int := (impl_AftersOf.f k l0 a1).bind fun l => impl_firstOf.f k l0 (l.filter fun x => !(x == a1))
theorem impl_FirstAfter.mono : ∀ l0 a1 k, LeO (impl_FirstAfter.f k l0 a1) (impl_FirstAfter.f (k + 1) l0 a1) := by
  intro l0 a1 k
  unfold impl_FirstAfter.f
  exact LeO.bind (impl_AftersOf.mono _ _ _) fun l => impl_firstOf.mono _ _ _
set_option maxHeartbeats 8000000 in
set_option maxRecDepth 100000 in
theorem impl_FirstAfter.inner (a x : Int) (W : World) (B : Nat) (hbox : W.cell? ⟨B, 0, none⟩ = some (.int .i64 a)) :
    Calls Try.prog 51 #[.int .i64 x, .pointer (some ⟨B, 0, none⟩)] W fun e w' => e = .returned (.bool (x == a)) ∧ ∃ q, w' = W.drewN q := by
  go_enter Try.func51, Try.ntmps51
  go_wp2
  go_ret
  exact ⟨rfl, 0, rfl⟩
theorem impl_FirstAfter.pred (a : Int) (w : World) (B : Nat) (hB : B < w.heap.size) (hbox : w.cell? ⟨B, 0, none⟩ = some (.int .i64 a)) :
    PredAt Try.prog 51 #[.pointer (some ⟨B, 0, none⟩)] (Value.int .i64) (fun x => x == a) w := fun W x hb =>
  impl_FirstAfter.inner a x W B ((hb.cell (p := ⟨B, 0, none⟩) hB).trans hbox)
set_option maxHeartbeats 8000000 in
set_option maxRecDepth 100000 in
theorem impl_FirstAfter.none_ (a : Int) (w : World) (B : Nat) (hB : B < w.heap.size) (hbox : w.cell? ⟨B, 0, none⟩ = some (.int .i64 a)) :
    Calls Try.prog 50 #[.slice none 0 0, .func (.func 51) #[] #[.pointer (some ⟨B, 0, none⟩)]] w fun e w' => e = .returned (.slice none 0 0) ∧ Below w.heap.size w w' := by
  have hcon := IdxI.index 51 #[.pointer (some ⟨B, 0, none⟩)] (enters_of Try.func51 (by kernel_rfl) rfl) (fun x => x == a) none 0 [] w (fun W hb x hx => by cases hx) ⟨rfl, by simp, fun h => by simp at h⟩ (Nat.le_refl _)
  have hi : IdxI.idx (fun x => x == a) [] = -1 := rfl
  rw [hi] at hcon
  simp only [List.length_nil] at hcon
  go_enter Try.func50, Try.ntmps50
  go_wp2_with (go_at_call 72; refine hcon.mono ?_; rintro e w' ⟨rfl, hb'⟩)
  go_ret
  exact ⟨rfl, hb'⟩
theorem impl_FirstAfter.del (a : Int) (l : List Int) (v : Value) (P_ : Nat → Prop) (w0 w : World) (B : Nat) (hB : B < w0.heap.size) (hbox : w0.cell? ⟨B, 0, none⟩ = some (.int .i64 a)) (hb0 : Below w0.heap.size w0 w) (hR : Kd.R (Kd.int .i64) 3 w w0.heap.size P_ v l) :
    Calls Try.prog 50 #[v, .func (.func 51) #[] #[.pointer (some ⟨B, 0, none⟩)]] w fun e w' => ∃ (A : Option Addr) (c : Nat), e = .returned (.slice A (l.filter fun x => !(x == a)).length c) ∧ Kd.C (Kd.int .i64) w' A (l.filter fun x => !(x == a)).length (l.filter fun x => !(x == a)) ∧ (l.filter fun x => !(x == a)).length ≤ c ∧ Below w0.heap.size w0 w' := by
  have hbw : w.cell? ⟨B, 0, none⟩ = some (.int .i64 a) := (hb0.cell (p := ⟨B, 0, none⟩) hB).trans hbox
  have hBw : B < w.heap.size := Nat.lt_of_lt_of_le hB hb0.size
  have hown := Kd.own_of_R (enc := Value.int .i64) (h1 := fun _ => rfl) hR
  rcases hown.2 with ⟨rfl, h0⟩ | ⟨g, cap, cur, rfl, hbase, hb, h1, h2, h3, h4⟩
  · have hl0 : l = [] := List.eq_nil_of_length_eq_zero h0
    subst hl0
    refine (impl_FirstAfter.none_ a w B hBw hbw).mono ?_
    rintro e w' ⟨rfl, hb'⟩
    exact ⟨none, 0, rfl, ⟨rfl, by simp, fun h => by simp at h⟩, Nat.le_refl _, below_then hb0 hb0.size hb'⟩
  · have hH : Go.Sort.Holds (Value.int .i64) w g 0 l.toArray := holds_of_blockI hb (by simpa [encs] using h4)
    have hfl : (l.filter fun x => !(x == a)).length ≤ l.length := List.length_filter_le _ _
    have hne : B ≠ g := by omega
    have hpo : PredOver Try.prog 51 #[.pointer (some ⟨B, 0, none⟩)] (Value.int .i64) (fun x => x == a) g 0 l.toArray.size w := by
      intro n os dk x hdk
      refine impl_FirstAfter.inner a x _ B ?_
      have hg := grownBy_sortedI (w := w) (g := g) (n := n) (os := os) dk
      have := hg.block B hBw (fun h => hne (by injection h))
      have e : (sortWorld (Value.int .i64) w g 0 n dk os).heap[B]? = w.heap[B]? := this
      unfold World.cell? at hbw ⊢
      simp only [e]
      exact hbw
    have hcall := Try.slices_DeleteFunc (Value.int .i64) (fun _ => rfl) (fun x => x == a) 51 #[.pointer (some ⟨B, 0, none⟩)] (enters_of Try.func51 (by kernel_rfl) rfl) 0 (Try.zeroValue3) g 0 cap l.toArray w (impl_FirstAfter.pred a w B hBw hbw) hpo hH (by simp; unfold maxLen at h2; omega) (by simpa using h1)
    have hsz : l.toArray.size = l.length := by simp
    rw [hsz] at hcall
    refine hcall.mono ?_
    rintro e w' ⟨rfl, n, rfl⟩
    have hgr : ∀ W : World, Go.Sort.grow W #[] = W := fun W => by simp [Go.Sort.grow]
    have hg := grownBy_sortedI (w := w) (g := g) (n := n) (os := #[]) ((l.filter fun x => !(x == a)) ++ List.replicate (l.length - (l.filter fun x => !(x == a)).length) 0).toArray
    have ho := ownsRow_sortedI (w := w) (n := n) (os := #[]) (ss := l) (ts := (l.filter fun x => !(x == a)) ++ List.replicate (l.length - (l.filter fun x => !(x == a)).length) 0) (by simp; omega) hbase hb h1 h2 (by simpa using h3)
    rw [hgr] at hg ho
    have hlen : ((l.filter fun x => !(x == a)) ++ List.replicate (l.length - (l.filter fun x => !(x == a)).length) 0).length = l.length := by simp; omega
    have hR2 : Kd.R (Kd.int .i64) 3 _ w0.heap.size (fun _ => True) (.slice (some ⟨g, 0, none⟩) l.length cap) ((l.filter fun x => !(x == a)) ++ List.replicate (l.length - (l.filter fun x => !(x == a)).length) 0) :=
      Kd.R_of_own (enc := Value.int .i64) (h1 := fun _ => rfl) (by rw [hlen]; simpa [encs] using ho) (fun _ _ => trivial)
    have hT := Kd.R_take hR2 (m := (l.filter fun x => !(x == a)).length) (by simp)
    rw [List.take_left'] at hT
    · obtain ⟨A, c, he, hc, hC⟩ := Kd.R_reads hT
      exact ⟨A, c, by rw [← he], hC, hc, pw_below_grown hb0 (some g) hb0.size hg (fun k hk => by cases hk; exact hbase)⟩
    · rfl
set_option maxHeartbeats 8000000 in
set_option maxRecDepth 100000 in
theorem impl_FirstAfter.calls (k : Nat) (A0 : Option Addr) (c0 : Nat) (l0 : List S52) (a1 : Int) (r : Int) (w : World) (hr0 : Kd.C k52 w A0 l0.length l0) (hc0 : l0.length ≤ c0) (h : impl_FirstAfter.f k l0 a1 = some r) :
    Calls Try.prog 29 #[.slice A0 l0.length c0, .int .i64 a1] w fun e w' => e = .returned (.int .i64 r) ∧ Below w.heap.size w w' := by
  unfold impl_FirstAfter.f at h
  obtain ⟨l, hl, h⟩ := Option.bind_eq_some_iff.mp h
  have hw0 : Below w.heap.size w (w.alloc (.cells #[.int .i64 a1] 3)) := below_alloc (Below.refl _ _) _
  have hsz0 : w.heap.size ≤ (w.alloc (.cells #[.int .i64 a1] 3)).heap.size := hw0.size
  have haf : Calls Try.prog 28 #[.slice A0 l0.length c0, .int .i64 a1] (w.alloc (.cells #[.int .i64 a1] 3)) fun e w' => ∃ v, e = .returned v ∧ Below (w.alloc (.cells #[.int .i64 a1] 3)).heap.size (w.alloc (.cells #[.int .i64 a1] 3)) w' ∧ Aside0 (Kd.R (Kd.int .i64) 3 w' (w.alloc (.cells #[.int .i64 a1] 3)).heap.size (fun _ => True) v l) :=
    (impl_AftersOf.calls k A0 c0 l0 a1 l _ (Kd.C_below hr0 hw0) hc0 hl).mono fun e w' ⟨v, he, hR, hb⟩ => ⟨v, he, hb, ⟨hR⟩⟩
  have hdl : ∀ w' v, Below (w.alloc (.cells #[.int .i64 a1] 3)).heap.size (w.alloc (.cells #[.int .i64 a1] 3)) w' → Aside0 (Kd.R (Kd.int .i64) 3 w' (w.alloc (.cells #[.int .i64 a1] 3)).heap.size (fun _ => True) v l) →
      Calls Try.prog 50 #[v, .func (.func 51) #[] #[.pointer (some ⟨w.heap.size, 0, none⟩)]] w' fun e w2 => ∃ (A : Option Addr) (c : Nat), e = .returned (.slice A (l.filter fun x => !(x == a1)).length c) ∧ Aside0 (Kd.C (Kd.int .i64) w2 A (l.filter fun x => !(x == a1)).length (l.filter fun x => !(x == a1))) ∧ Aside0 ((l.filter fun x => !(x == a1)).length ≤ c) ∧ Below (w.alloc (.cells #[.int .i64 a1] 3)).heap.size (w.alloc (.cells #[.int .i64 a1] 3)) w2 := fun w' v hb hR =>
    (impl_FirstAfter.del a1 l v _ _ w' w.heap.size (by simp) (by simp) hb hR.out).mono fun e w2 ⟨A, c, he, hC, hc, hb2⟩ => ⟨A, c, he, ⟨hC⟩, ⟨hc⟩, hb2⟩
  have hfo : ∀ w2 A c, Below (w.alloc (.cells #[.int .i64 a1] 3)).heap.size (w.alloc (.cells #[.int .i64 a1] 3)) w2 → Aside0 (Kd.C (Kd.int .i64) w2 A (l.filter fun x => !(x == a1)).length (l.filter fun x => !(x == a1))) → Aside0 ((l.filter fun x => !(x == a1)).length ≤ c) →
      Calls Try.prog 49 #[.slice A0 l0.length c0, .slice A (l.filter fun x => !(x == a1)).length c] w2 fun e w3 => e = .returned (.int .i64 r) ∧ Below w.heap.size w w3 := fun w2 A c hb hC hc => by
    have hb' := below_then hw0 hsz0 hb
    refine (impl_firstOf.calls k A0 c0 l0 A c _ r w2 (Kd.C_below hr0 hb') hc0 hC.out hc.out h).mono ?_
    rintro e w3 ⟨rfl, hb3⟩
    exact ⟨rfl, below_then hb' hb'.size hb3⟩
  clear hr0 hc0 hl h hw0 hsz0
  generalize (l.filter fun x => !(x == a1)).length = fn at *
  generalize l0.length = ln at *
  go_enter Try.func29, Try.ntmps29
  go_wp2_with (first | (go_at_call 28; refine haf.mono ?_; rintro e w1 ⟨v, rfl, hb1, hR1⟩) | (go_at_call 50; refine (hdl _ _ (by assumption) (by assumption)).mono ?_; rintro e w2 ⟨A, c, rfl, hC2, hc2, hb2⟩) | (go_at_call 49; refine (hfo _ _ _ (by assumption) (by assumption) (by assumption)).mono ?_; rintro e w3 ⟨rfl, hb3⟩))
  go_ret
  exact ⟨rfl, hb3⟩

end Go.Proofs.Ytbkgklkiennpbaa.HG
