-- by hprint.py (wip/tools) over the kit's print.py: this session's text; Lean checks it
import Derived.Test.YtionemdnfhcfpaaDoorHQ0
namespace Go.Proofs.YtionemdnfhcfpaaDoor.HQ
open Go.RowKit Go.Proofs.YtionemdnfhcfpaaDoorW.PrintWords Go.Proofs.YtionemdnfhcfpaaDoorW.PrintLast Go.Proofs.YtionemdnfhcfpaaDoorW.PrintMore
attribute [local go_sem] max2_int min2_int max_two min_two max_three min_three max_four min_four   -- for this text's walks alone
set_option linter.unusedVariables false
set_option linter.unusedSimpArgs false

/-! ### slices_ContainsFunc_byte_byte: function 43 -/
/-- The first place at which p holds, or -1. -/
def IdxB.idx (p : Int → Bool) (l : List Int) : Int := match l.findIdx? p with | some i => (i : Int) | none => -1
theorem IdxB.idx_hit (p : Int → Bool) (l : List Int) (i : Int) (h0 : 0 ≤ i) (h1 : i < l.length) (hp : p (rd l i) = true) (hl : ∀ j : Int, 0 ≤ j → j < i → p (rd l j) = false) : IdxB.idx p l = i := by
  obtain ⟨n, rfl⟩ := Int.eq_ofNat_of_zero_le h0
  have hn : n < l.length := by omega
  have e : l.findIdx? p = some n := by
    rw [List.findIdx?_eq_some_iff_getElem]
    refine ⟨hn, ?_, fun j hj => ?_⟩
    · have := hp
      simp [rd, List.getD_eq_getElem?_getD, hn] at this
      exact this
    · have := hl (j : Int) (by omega) (by omega)
      have hjl : j < l.length := by omega
      simp [rd, List.getD_eq_getElem?_getD, hjl] at this
      simp [this]
  simp [IdxB.idx, e]
theorem IdxB.idx_miss (p : Int → Bool) (l : List Int) (hl : ∀ j : Int, 0 ≤ j → j < l.length → p (rd l j) = false) : IdxB.idx p l = -1 := by
  have e : l.findIdx? p = none := by
    rw [List.findIdx?_eq_none_iff]
    intro x hx
    obtain ⟨j, hj, rfl⟩ := List.mem_iff_getElem.1 hx
    have := hl (j : Int) (by omega) (by omega)
    simpa [rd, List.getD_eq_getElem?_getD, hj] using this
  simp [IdxB.idx, e]
theorem IdxB.idx_any (p : Int → Bool) (l : List Int) : decide (IdxB.idx p l ≥ 0) = l.any p := by
  unfold IdxB.idx
  cases h : l.findIdx? p with
  | none =>
    rw [List.findIdx?_eq_none_iff] at h
    have : l.any p = false := by simpa using h
    simp [this]
  | some i =>
    rw [List.findIdx?_eq_some_iff_getElem] at h
    obtain ⟨hi, hp, _⟩ := h
    have : l.any p = true := List.any_eq_true.2 ⟨_, List.getElem_mem hi, hp⟩
    simp [this]
theorem IdxB.rd_mem (l : List Int) (i : Int) (h0 : 0 ≤ i) (h1 : i < l.length) : rd l i ∈ l := by
  obtain ⟨n, rfl⟩ := Int.eq_ofNat_of_zero_le h0
  have hn : n < l.length := by omega
  simp [rd, List.getD_eq_getElem?_getD, hn]

/-- What is asked of the function value. -/
def IdxB.Pays (g : Nat) (lb : Array Value) (p : Int → Bool) (l : List Int) (w : World) : Prop :=
  ∀ W : World, Below w.heap.size w W → ∀ x ∈ l, Calls Tryd.prog g (#[.int .u8 x] ++ lb) W fun e w' => e = .returned (.bool (p x)) ∧ Below w.heap.size w w'

set_option maxHeartbeats 8000000 in
set_option maxRecDepth 100000 in
theorem IdxB.index (g : Nat) (lb : Array Value) (eg : ∀ args w, (callFunc g args).run Tryd.prog w = .ok (.enter g args) w) (p : Int → Bool) (A0 : Option Addr) (c0 : Nat) (l0 : List Int) (w : World)
    (hp : IdxB.Pays g lb p l0 w) (hr0 : Kd.C (Kd.int .u8) w A0 l0.length l0) (hc0 : l0.length ≤ c0) :
    Calls Tryd.prog 70 #[.slice A0 l0.length c0, .func (.func g) #[] lb] w fun e w' => e = .returned (.int .i64 (IdxB.idx p l0)) ∧ Below w.heap.size w w' := by
  have HR0 := Aside0.mk hr0
  have HC0 := Aside0.mk hc0
  have HL := Aside0.mk (show l0.length ≤ 9223372036854775807 from hr0.2.1)
  have HP := Aside0.mk hp
  clear hr0 hc0 hp
  have HB := Aside0.mk (Below.refl w.heap.size w)
  have hlen : l0.length ≤ 9223372036854775807 := HL.out
  go_enter Tryd.func70, Tryd.ntmps70
  go_wp2
  go_loopg [5, 8] l0.length (fun gg _ s8 wr => ∃ x8 : Int, s8 = .int .i64 x8 ∧ 0 ≤ x8 ∧ x8 ≤ l0.length ∧ (l0.length : Int) - x8 ≤ gg ∧ Aside0 (Below w.heap.size w wr) ∧ Aside0 (∀ j : Int, 0 ≤ j → j < x8 → p (rd l0 j) = false))
  case atStart => exact ⟨0, rfl, by omega, by omega, by omega, ⟨HB.out⟩, ⟨fun j h0 h1 => by omega⟩⟩
  case round =>
    obtain ⟨x8, rfl, h0, h1, hg, HB, HA⟩ := hrel
    by_cases c2 : x8 < (l0.length : Int)
    · obtain ⟨ad101, e101, hx101⟩ := Kd.at_int HR0.out x8 h0 c2
      cases e101
      replace hx101 := pw_cell_below HB.out hx101
      have hcall := HP.out wr HB.out _ (IdxB.rd_mem l0 x8 h0 c2)
      generalize hy : rd l0 x8 = y at hx101 hcall
      have HY := Aside0.mk hy
      clear hy
      cases hq : p y with
      | true =>
        rw [hq] at hcall
        have HQ := Aside0.mk hq
        clear hq
        go_wp2_with (go_at_fn g; refine hcall.mono ?_; rintro e w' ⟨rfl, hb'⟩)
        go_ret
        exact ⟨by rw [IdxB.idx_hit p l0 x8 h0 c2 (by rw [HY.out]; exact HQ.out) HA.out]; rfl, hb'⟩
      | false =>
        rw [hq] at hcall
        have HQ := Aside0.mk hq
        clear hq
        go_wp2_with (go_at_fn g; refine hcall.mono ?_; rintro e w' ⟨rfl, hb'⟩)
        go_roundg (gk - 1)
        case measure => omega
        case rel =>
          refine ⟨x8 + 1, by first | rfl | (simp; done) | (simp [*]; done), by omega, by omega, by omega, ⟨hb'⟩, ⟨fun j hj0 hj1 => ?_⟩⟩
          by_cases e : j = x8
          · subst e; rw [HY.out]; exact HQ.out
          · exact HA.out j hj0 (by omega)
    · have c3 : x8 = l0.length := by omega
      have HC := Aside0.mk c3
      clear c3
      go_wp2
      go_ret
      exact ⟨by rw [IdxB.idx_miss p l0 (fun j hj0 hj1 => HA.out j hj0 (by have := HC.out; omega))]; rfl, HB.out⟩

set_option maxHeartbeats 8000000 in
set_option maxRecDepth 100000 in
theorem IdxB.contains (g : Nat) (lb : Array Value) (eg : ∀ args w, (callFunc g args).run Tryd.prog w = .ok (.enter g args) w) (p : Int → Bool) (A0 : Option Addr) (c0 : Nat) (l0 : List Int) (w : World)
    (hp : IdxB.Pays g lb p l0 w) (hr0 : Kd.C (Kd.int .u8) w A0 l0.length l0) (hc0 : l0.length ≤ c0) :
    Calls Tryd.prog 43 #[.slice A0 l0.length c0, .func (.func g) #[] lb] w fun e w' => e = .returned (.bool (l0.any p)) ∧ Below w.heap.size w w' := by
  have hcon := IdxB.index g lb eg p A0 c0 l0 w hp hr0 hc0
  rw [← IdxB.idx_any p l0]
  clear hp hr0 hc0 eg
  generalize IdxB.idx p l0 = r at hcon ⊢
  go_enter Tryd.func43, Tryd.ntmps43
  go_wp2_with (go_at_call 70; refine hcon.mono ?_; rintro e w' ⟨rfl, hb'⟩)
  go_ret
  exact ⟨rfl, hb'⟩

/-! ### impl_SplitFields: function 13 -/
def impl_SplitFields.bad (b : Int) : Bool := decide (b < 32) || decide (126 < b)
def impl_SplitFields.f (a0 : ByteArray) : Option (List ByteArray × Bool) :=
  if 600 < a0.size then some ([], false) else if a0.data.toList.any (fun b => impl_SplitFields.bad b.toNat) = true then some ([], false)
  else if 24 < (Lib.fields a0.data.toList).length then some ([], false) else some ((Lib.fields a0.data.toList).map fun l => ⟨l.toArray⟩, true)
set_option maxHeartbeats 8000000 in
set_option maxRecDepth 100000 in
theorem impl_SplitFields.inner (x : Int) (W : World) : Calls Tryd.prog 44 #[.int .u8 x] W fun e w' => e = .returned (.bool (impl_SplitFields.bad x)) ∧ ∃ q, w' = W.drewN q := by
  unfold impl_SplitFields.bad
  by_cases h1 : x < 32
  · have c1 : decide (x < 32) = true := decide_eq_true h1
    go_enter Tryd.func44, Tryd.ntmps44
    go_wp2
    go_ret
    exact ⟨by simp [h1], 0, rfl⟩
  · have c1 : decide (x < 32) = false := decide_eq_false h1
    go_enter Tryd.func44, Tryd.ntmps44
    go_wp2
    go_ret
    exact ⟨by simp [h1], 0, rfl⟩
set_option maxHeartbeats 8000000 in
set_option maxRecDepth 100000 in
theorem impl_SplitFields.calls (a0 : ByteArray) (r1 : List ByteArray) (r2 : Bool) (w : World) (h : impl_SplitFields.f a0 = some (r1, r2)) (HTA : Tabs.TA w) :
    Calls Tryd.prog 13 #[.string a0] w fun e w' => ∃ v0_ : Value, e = .returned (.tuple #[v0_, .bool r2]) ∧ Kd.R Kd.string 9 w' w.heap.size (fun _ => True) v0_ r1 ∧ Below w.heap.size w w' := by
  unfold impl_SplitFields.f at h
  by_cases h1 : 600 < a0.size
  · rw [if_pos h1] at h
    obtain ⟨rfl, rfl⟩ : [] = r1 ∧ false = r2 := ⟨congrArg Prod.fst (Option.some.inj h), congrArg Prod.snd (Option.some.inj h)⟩
    have c1 : (600 : Int) < (a0.size : Int) := by omega
    clear h h1 HTA
    go_enter Tryd.func13, Tryd.ntmps13
    go_wp2
    go_ret2
    exact ⟨_, rfl, Kd.R_nil _ _ _ _ _, Below.refl _ _⟩
  · rw [if_neg h1] at h
    have c1 : ¬ (600 : Int) < (a0.size : Int) := by omega
    have hlen : a0.size ≤ 600 := by omega
    have hcv := Lib.run_convert_string_bytes (P := Tryd.prog) w 9 42 5 a0 (u := .string) Tryd.underlying9 Tryd.underlying42 Tryd.underlying5
    have hb1 := Lib.bytesWorld_below w 5 a0
    have hds : a0.data.toList.length = a0.size := Array.length_toList
    obtain ⟨l, hl⟩ : ∃ l : List Int, l = a0.data.toList.map fun b => (b.toNat : Int) := ⟨_, rfl⟩
    have hll : l.length = a0.size := by rw [hl, List.length_map, hds]
    have hC : Kd.C (Kd.int .u8) (Lib.bytesWorld w 5 a0) (some ⟨w.heap.size, 0, none⟩) l.length l := by
      refine Kd.C_of_reads (d := (0 : Int)) ⟨rfl, by omega, fun hp => ⟨_, rfl, fun j hj => ?_⟩⟩
      have hc := Lib.bytesWorld_cell w 5 a0 j (by omega)
      have e1 : l.getD j 0 = ((a0.data.toList.getD j 0).toNat : Int) := by
        rw [hl, List.getD_eq_getElem?_getD, List.getD_eq_getElem?_getD, List.getElem?_map]
        cases a0.data.toList[j]? <;> rfl
      rw [add_at, Nat.zero_add, e1]
      exact hc
    have hany : a0.data.toList.any (fun b => impl_SplitFields.bad b.toNat) = l.any impl_SplitFields.bad := by
      rw [hl, List.any_map]; rfl
    have hcon := IdxB.contains 44 #[] (enters_of Tryd.func44 (by kernel_rfl) rfl) impl_SplitFields.bad (some ⟨w.heap.size, 0, none⟩) (grownCap w a0.size 0 5) l (Lib.bytesWorld w 5 a0)
      (fun W hb x _ => by
        refine Calls.mono (by simpa using impl_SplitFields.inner x W) ?_
        rintro e w' ⟨rfl, q, rfl⟩
        exact ⟨rfl, pw_below_drewN hb q⟩) hC (by rw [hll]; exact grownCap_ge w _ _ _)
    rw [hll] at hcon
    rw [hany] at h
    have hasc : l.any impl_SplitFields.bad = false → ∀ (j : Nat) (b : UInt8), a0.data.toList[j]? = some b → b.toNat < 128 := by
      intro hn j b hj
      rw [← hany, List.any_eq_false] at hn
      have := hn b (List.mem_of_getElem? hj)
      unfold impl_SplitFields.bad at this
      simp at this
      omega
    have HTA := Aside0.mk HTA
    generalize Lib.bytesWorld w 5 a0 = W1 at hcv hb1 hcon
    clear hC hany hl hll hds h1
    cases hq : l.any impl_SplitFields.bad with
    | true =>
      rw [hq] at h hcon
      rw [if_pos rfl] at h
      obtain ⟨rfl, rfl⟩ : [] = r1 ∧ false = r2 := ⟨congrArg Prod.fst (Option.some.inj h), congrArg Prod.snd (Option.some.inj h)⟩
      clear h hasc hq
      have HB1 := Aside0.mk hb1
      clear hb1
      go_enter Tryd.func13, Tryd.ntmps13
      go_wp2_with (go_at_call 43; refine hcon.mono ?_; rintro e w2 ⟨rfl, hb2⟩)
      go_ret2
      exact ⟨_, rfl, Kd.R_nil _ _ _ _ _, below_then HB1.out HB1.out.size hb2⟩
    | false =>
      rw [hq] at h hcon
      rw [if_neg (by decide)] at h
      have hF : ∀ W, Below W1.heap.size W1 W → Calls Tryd.prog 45 #[.string a0] W fun e w' => ∃ v A c, e = .returned v ∧ v = .slice A (Lib.fields a0.data.toList).length c ∧ Kd.R Kd.string 9 w' w.heap.size (fun _ => True) v ((Lib.fields a0.data.toList).map fun l => (⟨l.toArray⟩ : ByteArray)) ∧ Below w.heap.size w w' := fun W hb => by
        have hb2 := below_then hb1 hb1.size hb
        refine (Tryd.strings_Fields a0 W (by omega) (hasc hq) (HTA.out.stays hb2)).mono ?_
        rintro e w' ⟨rfl, rfl⟩
        have hn := Aid.fields_count a0.data.toList
        have hds : a0.data.toList.length = a0.size := Array.length_toList
        refine ⟨_, _, _, rfl, rfl, Kd.R_of_own (enc := Value.string) (h1 := fun _ => rfl) ?_ (fun _ _ => trivial), below_alloc hb2 _⟩
        rw [List.length_map]
        exact ⟨by simp [encs], .inr ⟨W.heap.size, _, _, rfl, hb2.size, heap_alloc_new W _, Nat.le_refl _, by unfold maxLen; omega, by simp, by simp [encs, Function.comp_def]; exact List.take_of_length_le (by simp)⟩⟩
      have hb12 := hb1
      clear hasc hq hb1
      generalize ((Lib.fields a0.data.toList).map fun l => (⟨l.toArray⟩ : ByteArray)) = F at h hF
      generalize (Lib.fields a0.data.toList).length = m at h hF
      by_cases h2 : 24 < m
      · rw [if_pos h2] at h
        obtain ⟨rfl, rfl⟩ : [] = r1 ∧ false = r2 := ⟨congrArg Prod.fst (Option.some.inj h), congrArg Prod.snd (Option.some.inj h)⟩
        have c2 : (24 : Int) < (m : Int) := by omega
        clear h h2
        go_enter Tryd.func13, Tryd.ntmps13
        go_wp2_with (first | (go_at_call 43; refine hcon.mono ?_; rintro e w2 ⟨rfl, hb2⟩) | (go_at_call 45; refine (hF _ (by assumption)).mono ?_; rintro e w3 ⟨v, A, c, rfl, rfl, hR, hb3⟩))
        go_ret2
        exact ⟨_, rfl, Kd.R_nil _ _ _ _ _, hb3⟩
      · rw [if_neg h2] at h
        obtain ⟨rfl, rfl⟩ : F = r1 ∧ true = r2 := ⟨congrArg Prod.fst (Option.some.inj h), congrArg Prod.snd (Option.some.inj h)⟩
        have c2 : ¬ (24 : Int) < (m : Int) := by omega
        clear h h2
        go_enter Tryd.func13, Tryd.ntmps13
        go_wp2_with (first | (go_at_call 43; refine hcon.mono ?_; rintro e w2 ⟨rfl, hb2⟩) | (go_at_call 45; refine (hF _ (by assumption)).mono ?_; rintro e w3 ⟨v, A, c, rfl, rfl, hR, hb3⟩))
        go_ret2
        exact ⟨_, rfl, hR, hb3⟩

/-! ### laws_eqStringS: function 14 -/
def laws_eqStringS.l0 : Nat → List ByteArray → List ByteArray → Int → Option (Bool)
  | 0, _, _, _ => none
  | k + 1, x0, x1, x5 => if x5 < (x0.length : Int) then (if 0 ≤ x5 then (if x5 < (x1.length : Int) then (if (rdOf ByteArray.empty x0 x5).toList = (rdOf ByteArray.empty x1 x5).toList then (laws_eqStringS.l0 k x0 x1 (wrap64 (x5 + 1))) else (some false)) else (none)) else (none)) else (some true)
def laws_eqStringS.f (k : Nat) (l0 : List ByteArray) (l1 : List ByteArray) : Option (Bool) := if (l0.length : Int) = (l1.length : Int) then (laws_eqStringS.l0 k l0 l1 0) else (some false)
theorem laws_eqStringS.mono_l : ∀ k, (∀ y0 y1 y2, LeO (laws_eqStringS.l0 k y0 y1 y2) (laws_eqStringS.l0 (k + 1) y0 y1 y2))
  | 0 => fun _ _ _ r h => by simp [laws_eqStringS.l0] at h
  | k + 1 => by
    have ih0 := laws_eqStringS.mono_l k
    · intro y0 y1 y2
      unfold laws_eqStringS.l0
      repeat' first
      | (with_reducible exact ih0 _ _ _)
      | (with_reducible exact LeO.refl _)
      | (with_reducible exact LeO.none _)
      | (with_reducible refine LeO.ite ?_ ?_)
      | (with_reducible refine LeO.bind ?_ (fun _ => ?_))
      | exact ih0 _ _ _
      | exact LeO.none _
      | refine LeO.ite ?_ ?_
      | refine LeO.bind ?_ (fun _ => ?_)
theorem laws_eqStringS.mono : ∀ a0 a1 k, LeO (laws_eqStringS.f k a0 a1) (laws_eqStringS.f (k + 1) a0 a1) := by
  intro a0 a1 k
  have ih0 := laws_eqStringS.mono_l k
  unfold laws_eqStringS.f
  repeat' first
      | (with_reducible exact ih0 _ _ _)
      | (with_reducible exact LeO.refl _)
      | (with_reducible exact LeO.none _)
      | (with_reducible refine LeO.ite ?_ ?_)
      | (with_reducible refine LeO.bind ?_ (fun _ => ?_))
      | exact ih0 _ _ _
      | exact LeO.none _
      | refine LeO.ite ?_ ?_
      | refine LeO.bind ?_ (fun _ => ?_)
set_option maxHeartbeats 8000000 in
set_option maxRecDepth 100000 in
theorem laws_eqStringS.calls (k : Nat) (A0 : Option Addr) (c0 : Nat) (l0 : List ByteArray) (A1 : Option Addr) (c1 : Nat) (l1 : List ByteArray) (r : Bool) (w : World) (hr0 : Kd.C Kd.string w A0 l0.length l0) (hc0 : l0.length ≤ c0) (hr1 : Kd.C Kd.string w A1 l1.length l1) (hc1 : l1.length ≤ c1) (h : laws_eqStringS.f k l0 l1 = some r) :
    Calls Tryd.prog 14 #[.slice A0 l0.length c0, .slice A1 l1.length c1] w fun e w' => e = .returned (.bool r) ∧ Drawn0 w w' := by
  have HR0 := Aside0.mk hr0
  have HC0 := Aside0.mk hc0
  clear hr0 hc0
  have HR1 := Aside0.mk hr1
  have HC1 := Aside0.mk hc1
  clear hr1 hc1
  have H : (if (l0.length : Int) = (l1.length : Int) then (laws_eqStringS.l0 k l0 l1 0) else (some false)) = some r := h
  clear h
  by_cases c3 : (l0.length : Int) = (l1.length : Int)
  · rw [if_pos c3] at H
    have c3b0 : ((l0.length : Int) == (l1.length : Int)) = true := beq_iff_eq.mpr c3
    have c3b1 : ((l0.length : Int) != (l1.length : Int)) = false := bne_eq_false_iff_eq.mpr c3
    have c3b2 : (l0.length == l1.length) = true := by first | simpa using c3 | (simp at c3 ⊢; omega)
    clear c3
    have H' := Aside0.mk H
    clear H
    go_enter Tryd.func14, Tryd.ntmps14
    go_wp2
    repeat (go_quiet (fail); try go_wp2)
    go_loopg [5] k (fun kq v5 w' => ∃ (x5_1 : Int), v5 = .int .i64 x5_1 ∧ Aside0 (laws_eqStringS.l0 kq l0 l1 x5_1 = some r) ∧ Aside0 (kq ≤ k) ∧ Drawn0 w w')
    case atStart => exact ⟨(0), (by first | rfl | (simp; done) | (simp [*]; done)), H', ⟨Nat.le_refl _⟩, by repeat (first | exact Drawn0.refl _ | apply Drawn0.step)⟩
    case round =>
      clear H'
      try clear c1
      try clear p2
      try clear c3
      try clear c3b0
      try clear c3b1
      try clear c3b2
      obtain ⟨x5_1, rfl, HA, HK1, ⟨m1, rfl⟩⟩ := hrel
      cases gk with
      | zero => exact absurd HA.out (by simp [laws_eqStringS.l0])
      | succ k1 =>
        have H := HA.out
        clear HA
        simp only [laws_eqStringS.l0] at H
        by_cases c4 : x5_1 < (l0.length : Int)
        · rw [if_pos c4] at H
          have c4b0 : decide (x5_1 < (l0.length : Int)) = true := decide_eq_true c4
          clear c4
          by_cases c5 : 0 ≤ x5_1
          · rw [if_pos c5] at H
            have c5b0 : decide (0 ≤ x5_1) = true := decide_eq_true c5
            clear c5
            by_cases c6 : x5_1 < (l1.length : Int)
            · rw [if_pos c6] at H
              have c6b0 : decide (x5_1 < (l1.length : Int)) = true := decide_eq_true c6
              clear c6
              by_cases c7 : (rdOf ByteArray.empty l0 x5_1).toList = (rdOf ByteArray.empty l1 x5_1).toList
              · rw [if_pos c7] at H
                have c7b0 : ((rdOf ByteArray.empty l0 x5_1).toList == (rdOf ByteArray.empty l1 x5_1).toList) = true := beq_iff_eq.mpr c7
                have c7b1 : ((rdOf ByteArray.empty l0 x5_1).toList != (rdOf ByteArray.empty l1 x5_1).toList) = false := bne_eq_false_iff_eq.mpr c7
                clear c7
                have H' := Aside0.mk H
                clear H
                have p113 : 0 ≤ (x5_1 : Int) := of_decide_eq_true (by first | (with_reducible assumption) | assumption)
                have q113 : x5_1 < (l0.length : Int) := of_decide_eq_true (by first | (with_reducible assumption) | assumption)
                obtain ⟨ad113, e113, hx113_0⟩ := Kd.at_string HR0.out x5_1 p113 q113
                cases e113
                replace p113 := eq_true p113
                replace q113 := eq_true q113
                have p114 : 0 ≤ (x5_1 : Int) := of_decide_eq_true (by first | (with_reducible assumption) | assumption)
                have q114 : x5_1 < (l1.length : Int) := of_decide_eq_true (by first | (with_reducible assumption) | assumption)
                obtain ⟨ad114, e114, hx114_0⟩ := Kd.at_string HR1.out x5_1 p114 q114
                cases e114
                replace p114 := eq_true p114
                replace q114 := eq_true q114
                go_wp2
                repeat (go_quiet (fail); try go_wp2)
                go_roundg k1
                case measure => have := HK1.out; omega
                case rel => exact ⟨(wrap64 (x5_1 + 1)), (by first | rfl | (simp; done) | (simp [*]; done)), H', ⟨by have := HK1.out; omega⟩, by repeat (first | exact Drawn0.refl _ | apply Drawn0.step)⟩
              · rw [if_neg c7] at H
                have c7b0 : ((rdOf ByteArray.empty l0 x5_1).toList == (rdOf ByteArray.empty l1 x5_1).toList) = false := beq_eq_false_iff_ne.mpr c7
                have c7b1 : ((rdOf ByteArray.empty l0 x5_1).toList != (rdOf ByteArray.empty l1 x5_1).toList) = true := bne_iff_ne.mpr c7
                obtain rfl := Option.some.inj H
                have p113 : 0 ≤ (x5_1 : Int) := of_decide_eq_true (by first | (with_reducible assumption) | assumption)
                have q113 : x5_1 < (l0.length : Int) := of_decide_eq_true (by first | (with_reducible assumption) | assumption)
                obtain ⟨ad113, e113, hx113_0⟩ := Kd.at_string HR0.out x5_1 p113 q113
                cases e113
                replace p113 := eq_true p113
                replace q113 := eq_true q113
                have p114 : 0 ≤ (x5_1 : Int) := of_decide_eq_true (by first | (with_reducible assumption) | assumption)
                have q114 : x5_1 < (l1.length : Int) := of_decide_eq_true (by first | (with_reducible assumption) | assumption)
                obtain ⟨ad114, e114, hx114_0⟩ := Kd.at_string HR1.out x5_1 p114 q114
                cases e114
                replace p114 := eq_true p114
                replace q114 := eq_true q114
                go_wp2
                repeat (go_quiet (fail); try go_wp2)
                go_ret
                exact ⟨by first | rfl | (simp; done) | (simp [*]; done), by repeat (first | exact Drawn0.refl _ | apply Drawn0.step)⟩
            · rw [if_neg c6] at H
              exact absurd H (by simp)
          · rw [if_neg c5] at H
            exact absurd H (by simp)
        · rw [if_neg c4] at H
          have c4b0 : decide (x5_1 < (l0.length : Int)) = false := decide_eq_false c4
          clear c4
          obtain rfl := Option.some.inj H
          go_wp2
          repeat (go_quiet (fail); try go_wp2)
          go_ret
          exact ⟨by first | rfl | (simp; done) | (simp [*]; done), by repeat (first | exact Drawn0.refl _ | apply Drawn0.step)⟩
  · rw [if_neg c3] at H
    have c3b0 : ((l0.length : Int) == (l1.length : Int)) = false := beq_eq_false_iff_ne.mpr c3
    have c3b1 : ((l0.length : Int) != (l1.length : Int)) = true := bne_iff_ne.mpr c3
    have c3b2 : (l0.length == l1.length) = false := by first | simpa using c3 | (simp at c3 ⊢; omega)
    obtain rfl := Option.some.inj H
    go_enter Tryd.func14, Tryd.ntmps14
    go_wp2
    repeat (go_quiet (fail); try go_wp2)
    go_ret
    exact ⟨by first | rfl | (simp; done) | (simp [*]; done), by repeat (first | exact Drawn0.refl _ | apply Drawn0.step)⟩

end Go.Proofs.YtionemdnfhcfpaaDoor.HQ
