-- by hprint.py (wip/tools) over the kit's print.py: this session's text; Lean checks it
import Derived.Test.YtionemdnfhcfpaaDoorHR0
namespace Go.Proofs.YtionemdnfhcfpaaDoor.HR
open Go.RowKit Go.Proofs.YtionemdnfhcfpaaDoorW.PrintWords Go.Proofs.YtionemdnfhcfpaaDoorW.PrintLast Go.Proofs.YtionemdnfhcfpaaDoorW.PrintMore
attribute [local go_sem] max2_int min2_int max_two min_two max_three min_three max_four min_four   -- for this text's walks alone
set_option linter.unusedVariables false
set_option linter.unusedSimpArgs false

/-! ### slices_ContainsFunc_byte_byte: function 43 -/
/-- The first place at which p holds, or -1. -/
def IdxB.idx (p : Int → Bool) (l : List Int) : Int := match l.findIdx? p with | some i => (i : Int) | none => -1
theorem IdxB.idx_hit (p : Int → Bool) (l : List Int) (i : Int) (h0 : 0 ≤ i) (h1 : i < l.length) (hp : p (rd l i) = true) (hl : ∀ j : Int, 0 ≤ j → j < i → p (rd l j) = false) : IdxB.idx p l = i := by
  obtain ⟨n, rfl⟩ := Int.eq_ofNat_of_zero_le h0
  have hn : n < l.length := by omega
  have e : l.findIdx? p = some n := by
    rw [List.findIdx?_eq_some_iff_getElem]
    refine ⟨hn, ?_, fun j hj => ?_⟩
    · have := hp
      simp [rd, List.getD_eq_getElem?_getD, hn] at this
      exact this
    · have := hl (j : Int) (by omega) (by omega)
      have hjl : j < l.length := by omega
      simp [rd, List.getD_eq_getElem?_getD, hjl] at this
      simp [this]
  simp [IdxB.idx, e]
theorem IdxB.idx_miss (p : Int → Bool) (l : List Int) (hl : ∀ j : Int, 0 ≤ j → j < l.length → p (rd l j) = false) : IdxB.idx p l = -1 := by
  have e : l.findIdx? p = none := by
    rw [List.findIdx?_eq_none_iff]
    intro x hx
    obtain ⟨j, hj, rfl⟩ := List.mem_iff_getElem.1 hx
    have := hl (j : Int) (by omega) (by omega)
    simpa [rd, List.getD_eq_getElem?_getD, hj] using this
  simp [IdxB.idx, e]
theorem IdxB.idx_any (p : Int → Bool) (l : List Int) : decide (IdxB.idx p l ≥ 0) = l.any p := by
  unfold IdxB.idx
  cases h : l.findIdx? p with
  | none =>
    rw [List.findIdx?_eq_none_iff] at h
    have : l.any p = false := by simpa using h
    simp [this]
  | some i =>
    rw [List.findIdx?_eq_some_iff_getElem] at h
    obtain ⟨hi, hp, _⟩ := h
    have : l.any p = true := List.any_eq_true.2 ⟨_, List.getElem_mem hi, hp⟩
    simp [this]
theorem IdxB.rd_mem (l : List Int) (i : Int) (h0 : 0 ≤ i) (h1 : i < l.length) : rd l i ∈ l := by
  obtain ⟨n, rfl⟩ := Int.eq_ofNat_of_zero_le h0
  have hn : n < l.length := by omega
  simp [rd, List.getD_eq_getElem?_getD, hn]

/-- What is asked of the function value. -/
def IdxB.Pays (g : Nat) (lb : Array Value) (p : Int → Bool) (l : List Int) (w : World) : Prop :=
  ∀ W : World, Below w.heap.size w W → ∀ x ∈ l, Calls Tryd.prog g (#[.int .u8 x] ++ lb) W fun e w' => e = .returned (.bool (p x)) ∧ Below w.heap.size w w'

set_option maxHeartbeats 8000000 in
set_option maxRecDepth 100000 in
theorem IdxB.index (g : Nat) (lb : Array Value) (eg : ∀ args w, (callFunc g args).run Tryd.prog w = .ok (.enter g args) w) (p : Int → Bool) (A0 : Option Addr) (c0 : Nat) (l0 : List Int) (w : World)
    (hp : IdxB.Pays g lb p l0 w) (hr0 : Kd.C (Kd.int .u8) w A0 l0.length l0) (hc0 : l0.length ≤ c0) :
    Calls Tryd.prog 70 #[.slice A0 l0.length c0, .func (.func g) #[] lb] w fun e w' => e = .returned (.int .i64 (IdxB.idx p l0)) ∧ Below w.heap.size w w' := by
  have HR0 := Aside0.mk hr0
  have HC0 := Aside0.mk hc0
  have HL := Aside0.mk (show l0.length ≤ 9223372036854775807 from hr0.2.1)
  have HP := Aside0.mk hp
  clear hr0 hc0 hp
  have HB := Aside0.mk (Below.refl w.heap.size w)
  have hlen : l0.length ≤ 9223372036854775807 := HL.out
  go_enter Tryd.func70, Tryd.ntmps70
  go_wp2
  go_loopg [5, 8] l0.length (fun gg _ s8 wr => ∃ x8 : Int, s8 = .int .i64 x8 ∧ 0 ≤ x8 ∧ x8 ≤ l0.length ∧ (l0.length : Int) - x8 ≤ gg ∧ Aside0 (Below w.heap.size w wr) ∧ Aside0 (∀ j : Int, 0 ≤ j → j < x8 → p (rd l0 j) = false))
  case atStart => exact ⟨0, rfl, by omega, by omega, by omega, ⟨HB.out⟩, ⟨fun j h0 h1 => by omega⟩⟩
  case round =>
    obtain ⟨x8, rfl, h0, h1, hg, HB, HA⟩ := hrel
    by_cases c2 : x8 < (l0.length : Int)
    · obtain ⟨ad101, e101, hx101⟩ := Kd.at_int HR0.out x8 h0 c2
      cases e101
      replace hx101 := pw_cell_below HB.out hx101
      have hcall := HP.out wr HB.out _ (IdxB.rd_mem l0 x8 h0 c2)
      generalize hy : rd l0 x8 = y at hx101 hcall
      have HY := Aside0.mk hy
      clear hy
      cases hq : p y with
      | true =>
        rw [hq] at hcall
        have HQ := Aside0.mk hq
        clear hq
        go_wp2_with (go_at_fn g; refine hcall.mono ?_; rintro e w' ⟨rfl, hb'⟩)
        go_ret
        exact ⟨by rw [IdxB.idx_hit p l0 x8 h0 c2 (by rw [HY.out]; exact HQ.out) HA.out]; rfl, hb'⟩
      | false =>
        rw [hq] at hcall
        have HQ := Aside0.mk hq
        clear hq
        go_wp2_with (go_at_fn g; refine hcall.mono ?_; rintro e w' ⟨rfl, hb'⟩)
        go_roundg (gk - 1)
        case measure => omega
        case rel =>
          refine ⟨x8 + 1, by first | rfl | (simp; done) | (simp [*]; done), by omega, by omega, by omega, ⟨hb'⟩, ⟨fun j hj0 hj1 => ?_⟩⟩
          by_cases e : j = x8
          · subst e; rw [HY.out]; exact HQ.out
          · exact HA.out j hj0 (by omega)
    · have c3 : x8 = l0.length := by omega
      have HC := Aside0.mk c3
      clear c3
      go_wp2
      go_ret
      exact ⟨by rw [IdxB.idx_miss p l0 (fun j hj0 hj1 => HA.out j hj0 (by have := HC.out; omega))]; rfl, HB.out⟩

set_option maxHeartbeats 8000000 in
set_option maxRecDepth 100000 in
theorem IdxB.contains (g : Nat) (lb : Array Value) (eg : ∀ args w, (callFunc g args).run Tryd.prog w = .ok (.enter g args) w) (p : Int → Bool) (A0 : Option Addr) (c0 : Nat) (l0 : List Int) (w : World)
    (hp : IdxB.Pays g lb p l0 w) (hr0 : Kd.C (Kd.int .u8) w A0 l0.length l0) (hc0 : l0.length ≤ c0) :
    Calls Tryd.prog 43 #[.slice A0 l0.length c0, .func (.func g) #[] lb] w fun e w' => e = .returned (.bool (l0.any p)) ∧ Below w.heap.size w w' := by
  have hcon := IdxB.index g lb eg p A0 c0 l0 w hp hr0 hc0
  rw [← IdxB.idx_any p l0]
  clear hp hr0 hc0 eg
  generalize IdxB.idx p l0 = r at hcon ⊢
  go_enter Tryd.func43, Tryd.ntmps43
  go_wp2_with (go_at_call 70; refine hcon.mono ?_; rintro e w' ⟨rfl, hb'⟩)
  go_ret
  exact ⟨rfl, hb'⟩

/-! ### impl_SplitFields: function 13 -/
def impl_SplitFields.bad (b : Int) : Bool := decide (b < 32) || decide (126 < b)
def impl_SplitFields.f (a0 : ByteArray) : Option (List ByteArray × Bool) :=
  if 600 < a0.size then some ([], false) else if a0.data.toList.any (fun b => impl_SplitFields.bad b.toNat) = true then some ([], false)
  else if 24 < (Lib.fields a0.data.toList).length then some ([], false) else some ((Lib.fields a0.data.toList).map fun l => ⟨l.toArray⟩, true)
set_option maxHeartbeats 8000000 in
set_option maxRecDepth 100000 in
theorem impl_SplitFields.inner (x : Int) (W : World) : Calls Tryd.prog 44 #[.int .u8 x] W fun e w' => e = .returned (.bool (impl_SplitFields.bad x)) ∧ ∃ q, w' = W.drewN q := by
  unfold impl_SplitFields.bad
  by_cases h1 : x < 32
  · have c1 : decide (x < 32) = true := decide_eq_true h1
    go_enter Tryd.func44, Tryd.ntmps44
    go_wp2
    go_ret
    exact ⟨by simp [h1], 0, rfl⟩
  · have c1 : decide (x < 32) = false := decide_eq_false h1
    go_enter Tryd.func44, Tryd.ntmps44
    go_wp2
    go_ret
    exact ⟨by simp [h1], 0, rfl⟩
set_option maxHeartbeats 8000000 in
set_option maxRecDepth 100000 in
theorem impl_SplitFields.calls (a0 : ByteArray) (r1 : List ByteArray) (r2 : Bool) (w : World) (h : impl_SplitFields.f a0 = some (r1, r2)) (HTA : Tabs.TA w) :
    Calls Tryd.prog 13 #[.string a0] w fun e w' => ∃ v0_ : Value, e = .returned (.tuple #[v0_, .bool r2]) ∧ Kd.R Kd.string 9 w' w.heap.size (fun _ => True) v0_ r1 ∧ Below w.heap.size w w' := by
  unfold impl_SplitFields.f at h
  by_cases h1 : 600 < a0.size
  · rw [if_pos h1] at h
    obtain ⟨rfl, rfl⟩ : [] = r1 ∧ false = r2 := ⟨congrArg Prod.fst (Option.some.inj h), congrArg Prod.snd (Option.some.inj h)⟩
    have c1 : (600 : Int) < (a0.size : Int) := by omega
    clear h h1 HTA
    go_enter Tryd.func13, Tryd.ntmps13
    go_wp2
    go_ret2
    exact ⟨_, rfl, Kd.R_nil _ _ _ _ _, Below.refl _ _⟩
  · rw [if_neg h1] at h
    have c1 : ¬ (600 : Int) < (a0.size : Int) := by omega
    have hlen : a0.size ≤ 600 := by omega
    have hcv := Lib.run_convert_string_bytes (P := Tryd.prog) w 9 42 5 a0 (u := .string) Tryd.underlying9 Tryd.underlying42 Tryd.underlying5
    have hb1 := Lib.bytesWorld_below w 5 a0
    have hds : a0.data.toList.length = a0.size := Array.length_toList
    obtain ⟨l, hl⟩ : ∃ l : List Int, l = a0.data.toList.map fun b => (b.toNat : Int) := ⟨_, rfl⟩
    have hll : l.length = a0.size := by rw [hl, List.length_map, hds]
    have hC : Kd.C (Kd.int .u8) (Lib.bytesWorld w 5 a0) (some ⟨w.heap.size, 0, none⟩) l.length l := by
      refine Kd.C_of_reads (d := (0 : Int)) ⟨rfl, by omega, fun hp => ⟨_, rfl, fun j hj => ?_⟩⟩
      have hc := Lib.bytesWorld_cell w 5 a0 j (by omega)
      have e1 : l.getD j 0 = ((a0.data.toList.getD j 0).toNat : Int) := by
        rw [hl, List.getD_eq_getElem?_getD, List.getD_eq_getElem?_getD, List.getElem?_map]
        cases a0.data.toList[j]? <;> rfl
      rw [add_at, Nat.zero_add, e1]
      exact hc
    have hany : a0.data.toList.any (fun b => impl_SplitFields.bad b.toNat) = l.any impl_SplitFields.bad := by
      rw [hl, List.any_map]; rfl
    have hcon := IdxB.contains 44 #[] (enters_of Tryd.func44 (by kernel_rfl) rfl) impl_SplitFields.bad (some ⟨w.heap.size, 0, none⟩) (grownCap w a0.size 0 5) l (Lib.bytesWorld w 5 a0)
      (fun W hb x _ => by
        refine Calls.mono (by simpa using impl_SplitFields.inner x W) ?_
        rintro e w' ⟨rfl, q, rfl⟩
        exact ⟨rfl, pw_below_drewN hb q⟩) hC (by rw [hll]; exact grownCap_ge w _ _ _)
    rw [hll] at hcon
    rw [hany] at h
    have hasc : l.any impl_SplitFields.bad = false → ∀ (j : Nat) (b : UInt8), a0.data.toList[j]? = some b → b.toNat < 128 := by
      intro hn j b hj
      rw [← hany, List.any_eq_false] at hn
      have := hn b (List.mem_of_getElem? hj)
      unfold impl_SplitFields.bad at this
      simp at this
      omega
    have HTA := Aside0.mk HTA
    generalize Lib.bytesWorld w 5 a0 = W1 at hcv hb1 hcon
    clear hC hany hl hll hds h1
    cases hq : l.any impl_SplitFields.bad with
    | true =>
      rw [hq] at h hcon
      rw [if_pos rfl] at h
      obtain ⟨rfl, rfl⟩ : [] = r1 ∧ false = r2 := ⟨congrArg Prod.fst (Option.some.inj h), congrArg Prod.snd (Option.some.inj h)⟩
      clear h hasc hq
      have HB1 := Aside0.mk hb1
      clear hb1
      go_enter Tryd.func13, Tryd.ntmps13
      go_wp2_with (go_at_call 43; refine hcon.mono ?_; rintro e w2 ⟨rfl, hb2⟩)
      go_ret2
      exact ⟨_, rfl, Kd.R_nil _ _ _ _ _, below_then HB1.out HB1.out.size hb2⟩
    | false =>
      rw [hq] at h hcon
      rw [if_neg (by decide)] at h
      have hF : ∀ W, Below W1.heap.size W1 W → Calls Tryd.prog 45 #[.string a0] W fun e w' => ∃ v A c, e = .returned v ∧ v = .slice A (Lib.fields a0.data.toList).length c ∧ Kd.R Kd.string 9 w' w.heap.size (fun _ => True) v ((Lib.fields a0.data.toList).map fun l => (⟨l.toArray⟩ : ByteArray)) ∧ Below w.heap.size w w' := fun W hb => by
        have hb2 := below_then hb1 hb1.size hb
        refine (Tryd.strings_Fields a0 W (by omega) (hasc hq) (HTA.out.stays hb2)).mono ?_
        rintro e w' ⟨rfl, rfl⟩
        have hn := Aid.fields_count a0.data.toList
        have hds : a0.data.toList.length = a0.size := Array.length_toList
        refine ⟨_, _, _, rfl, rfl, Kd.R_of_own (enc := Value.string) (h1 := fun _ => rfl) ?_ (fun _ _ => trivial), below_alloc hb2 _⟩
        rw [List.length_map]
        exact ⟨by simp [encs], .inr ⟨W.heap.size, _, _, rfl, hb2.size, heap_alloc_new W _, Nat.le_refl _, by unfold maxLen; omega, by simp, by simp [encs, Function.comp_def]; exact List.take_of_length_le (by simp)⟩⟩
      have hb12 := hb1
      clear hasc hq hb1
      generalize ((Lib.fields a0.data.toList).map fun l => (⟨l.toArray⟩ : ByteArray)) = F at h hF
      generalize (Lib.fields a0.data.toList).length = m at h hF
      by_cases h2 : 24 < m
      · rw [if_pos h2] at h
        obtain ⟨rfl, rfl⟩ : [] = r1 ∧ false = r2 := ⟨congrArg Prod.fst (Option.some.inj h), congrArg Prod.snd (Option.some.inj h)⟩
        have c2 : (24 : Int) < (m : Int) := by omega
        clear h h2
        go_enter Tryd.func13, Tryd.ntmps13
        go_wp2_with (first | (go_at_call 43; refine hcon.mono ?_; rintro e w2 ⟨rfl, hb2⟩) | (go_at_call 45; refine (hF _ (by assumption)).mono ?_; rintro e w3 ⟨v, A, c, rfl, rfl, hR, hb3⟩))
        go_ret2
        exact ⟨_, rfl, Kd.R_nil _ _ _ _ _, hb3⟩
      · rw [if_neg h2] at h
        obtain ⟨rfl, rfl⟩ : F = r1 ∧ true = r2 := ⟨congrArg Prod.fst (Option.some.inj h), congrArg Prod.snd (Option.some.inj h)⟩
        have c2 : ¬ (24 : Int) < (m : Int) := by omega
        clear h h2
        go_enter Tryd.func13, Tryd.ntmps13
        go_wp2_with (first | (go_at_call 43; refine hcon.mono ?_; rintro e w2 ⟨rfl, hb2⟩) | (go_at_call 45; refine (hF _ (by assumption)).mono ?_; rintro e w3 ⟨v, A, c, rfl, rfl, hR, hb3⟩))
        go_ret2
        exact ⟨_, rfl, hR, hb3⟩

/-! ### strconv_Itoa: function 61 -/
def strconv_Itoa.f (a0 : Int) : Option (ByteArray) := if -9223372036854775808 ≤ a0 ∧ a0 ≤ 9223372036854775807 then some ⟨(Lib.itoa a0).toArray⟩ else none
theorem strconv_Itoa.calls (a0 : Int) (r : ByteArray) (w : World) (h : strconv_Itoa.f a0 = some r) (HT_ : Tabs.TP w) :
    Calls Tryd.prog 61 #[.int .i64 a0] w fun e w' => e = .returned (.string r) ∧ Below w.heap.size w w' := by
  unfold strconv_Itoa.f at h
  by_cases hb : -9223372036854775808 ≤ a0 ∧ a0 ≤ 9223372036854775807
  · rw [if_pos hb] at h
    obtain rfl := Option.some.inj h
    refine (Tryd.strconv_Itoa a0 hb.1 hb.2 w HT_).mono ?_
    rintro e w' ⟨rfl, k, os, rfl⟩
    exact ⟨rfl, Below.trans (pw_below_drewN (Below.refl _ _) k) ⟨rfl, rfl, rfl, by simp [Sort.grow], fun j hj => by
      have hj' : j < (w.drewN k).heap.size := by simpa using hj
      show ((w.drewN k).heap ++ os)[j]? = _
      rw [Array.getElem?_append_left hj']⟩⟩
  · rw [if_neg hb] at h
    cases h

/-! ### impl_FormatInt: function 28 -/
def impl_FormatInt.f (a0 : Int) : Option (ByteArray) := (strconv_Itoa.f a0).bind fun t163 => (some t163)
set_option maxHeartbeats 8000000 in
set_option maxRecDepth 100000 in
theorem impl_FormatInt.calls (a0 : Int) (r : ByteArray) (w : World) (h : impl_FormatInt.f a0 = some r) (HTTP : Tabs.TP w) :
    Calls Tryd.prog 28 #[.int .i64 a0] w fun e w' => e = .returned (.string r) ∧ Below w.heap.size w w' := by
  replace HTTP := Aside0.mk HTTP
  have HB := Aside0.mk (Below.refl w.heap.size w)
  have H : ((strconv_Itoa.f a0).bind fun t163 => (some t163)) = some r := h
  clear h
  replace H := Option.bind_eq_some_iff.mp H
  obtain ⟨t163, A20, H⟩ := H
  replace H : (some t163) = some r := H
  have A2 := Aside0.mk A20
  clear A20
  obtain rfl := Option.some.inj H
  go_enter Tryd.func28, Tryd.ntmps28
  go_wp2_with (first | ((with_reducible refine gate_callee (f := 61) rfl ?_); refine goesL_ (some 4) rfl rfl Tryd.func61 (by kernel_rfl) rfl #[.int .i64 a0] rfl (by (try simp only [List.map_toArray, List.map_cons, List.map_nil]); first | done | rfl | (simp only [List.length_drop, List.length_take]; rfl)) ?_; (with_reducible refine (strconv_Itoa.calls a0 t163 _ A2.out ?sideTP).mono ?_); (case sideTP => exact Tabs.TP.stays HTTP.out (by repeat (first | (with_reducible first | exact HB.out | apply below_alloc | apply pw_below_drewN | apply below_drew1) | exact HB.out))); rintro e w3 ⟨rfl, hb⟩; refine ⟨_, rfl, ?_⟩; have n0_ := Aside0.mk (below_step (by repeat (first | (with_reducible first | exact HB.out | apply below_alloc | apply pw_below_drewN | apply below_drew1) | exact HB.out)) hb); clear HB; have HB := n0_; clear n0_; (try clear hb); (try clear hb2); (try clear hk); (try clear hi)))
  go_ret
  exact ⟨by first | rfl | (simp [errW_none, errW_some] <;> rfl) | (simp [*, errW_none, errW_some] <;> rfl) | (simp [errW_none, errW_some]; exact MakeAid.isEmpty_ne _), by repeat (first | (with_reducible first | exact HB.out | apply below_alloc | apply pw_below_drewN | apply below_drew1) | exact HB.out)⟩

/-! ### impl_within: function 63 -/
def impl_within.f (a0 : Int) (a1 : Int) (a2 : Int) : Option (Bool) := if a0 ≥ a1 then (some (decide (a0 ≤ a2))) else (some false)
set_option maxHeartbeats 8000000 in
set_option maxRecDepth 100000 in
theorem impl_within.calls (a0 : Int) (a1 : Int) (a2 : Int) (r : Bool) (w : World) (h : impl_within.f a0 a1 a2 = some r) :
    Calls Tryd.prog 63 #[.int .i64 a0, .int .i64 a1, .int .i64 a2] w fun e w' => e = .returned (.bool r) ∧ Drawn0 w w' := by
  have H : (if a0 ≥ a1 then (some (decide (a0 ≤ a2))) else (some false)) = some r := h
  clear h
  by_cases c4 : a0 ≥ a1
  · rw [if_pos c4] at H
    have c4b0 : decide (a1 ≤ a0) = true := decide_eq_true c4
    clear c4
    obtain rfl := Option.some.inj H
    go_enter Tryd.func63, Tryd.ntmps63
    go_wp2
    go_ret
    exact ⟨by first | rfl | (simp; done) | (simp [*]; done), by repeat (first | exact Drawn0.refl _ | apply Drawn0.step)⟩
  · rw [if_neg c4] at H
    have c4b0 : decide (a1 ≤ a0) = false := decide_eq_false c4
    clear c4
    obtain rfl := Option.some.inj H
    go_enter Tryd.func63, Tryd.ntmps63
    go_wp2
    go_ret
    exact ⟨by first | rfl | (simp; done) | (simp [*]; done), by repeat (first | exact Drawn0.refl _ | apply Drawn0.step)⟩

/-! ### impl_formOf: function 53 -/
def impl_formOf.f (a0 : Int) : Option (ByteArray) := (impl_within.f a0 0 16).bind fun t164 => (if t164 = true then ((some (([(⟨#[45, 45, 45]⟩ : ByteArray), (⟨#[82, 87, 45]⟩ : ByteArray), (⟨#[82, 82, 45]⟩ : ByteArray), (⟨#[82, 82, 82]⟩ : ByteArray), (⟨#[82, 82, 82]⟩ : ByteArray), (⟨#[82, 82, 82]⟩ : ByteArray), (⟨#[82, 82, 82]⟩ : ByteArray), (⟨#[82, 82, 82]⟩ : ByteArray), (⟨#[82, 45, 45]⟩ : ByteArray), (⟨#[82, 82, 82]⟩ : ByteArray), (⟨#[82, 84, 45]⟩ : ByteArray), (⟨#[45, 84, 45]⟩ : ByteArray), (⟨#[45, 45, 45]⟩ : ByteArray), (⟨#[82, 82, 45]⟩ : ByteArray), (⟨#[82, 82, 45]⟩ : ByteArray), (⟨#[82, 82, 45]⟩ : ByteArray), (⟨#[45, 45, 45]⟩ : ByteArray)] : List ByteArray) : List ByteArray)).bind fun y165 => (if 0 ≤ a0 then (if a0 < (y165.length : Int) then (some (rdOf ByteArray.empty y165 a0)) else (none)) else (none))) else (some (⟨#[]⟩ : ByteArray)))
set_option maxHeartbeats 8000000 in
set_option maxRecDepth 100000 in
theorem impl_formOf.calls (a0 : Int) (r : ByteArray) (w : World) (h : impl_formOf.f a0 = some r) :
    Calls Tryd.prog 53 #[.int .i64 a0] w fun e w' => e = .returned (.string r) ∧ Below w.heap.size w w' := by
  have HB := Aside0.mk (Below.refl w.heap.size w)
  have H : ((impl_within.f a0 0 16).bind fun t164 => (if t164 = true then ((some (([(⟨#[45, 45, 45]⟩ : ByteArray), (⟨#[82, 87, 45]⟩ : ByteArray), (⟨#[82, 82, 45]⟩ : ByteArray), (⟨#[82, 82, 82]⟩ : ByteArray), (⟨#[82, 82, 82]⟩ : ByteArray), (⟨#[82, 82, 82]⟩ : ByteArray), (⟨#[82, 82, 82]⟩ : ByteArray), (⟨#[82, 82, 82]⟩ : ByteArray), (⟨#[82, 45, 45]⟩ : ByteArray), (⟨#[82, 82, 82]⟩ : ByteArray), (⟨#[82, 84, 45]⟩ : ByteArray), (⟨#[45, 84, 45]⟩ : ByteArray), (⟨#[45, 45, 45]⟩ : ByteArray), (⟨#[82, 82, 45]⟩ : ByteArray), (⟨#[82, 82, 45]⟩ : ByteArray), (⟨#[82, 82, 45]⟩ : ByteArray), (⟨#[45, 45, 45]⟩ : ByteArray)] : List ByteArray) : List ByteArray)).bind fun y165 => (if 0 ≤ a0 then (if a0 < (y165.length : Int) then (some (rdOf ByteArray.empty y165 a0)) else (none)) else (none))) else (some (⟨#[]⟩ : ByteArray)))) = some r := h
  clear h
  replace H := Option.bind_eq_some_iff.mp H
  obtain ⟨t164, A20, H⟩ := H
  replace H : (if t164 = true then ((some (([(⟨#[45, 45, 45]⟩ : ByteArray), (⟨#[82, 87, 45]⟩ : ByteArray), (⟨#[82, 82, 45]⟩ : ByteArray), (⟨#[82, 82, 82]⟩ : ByteArray), (⟨#[82, 82, 82]⟩ : ByteArray), (⟨#[82, 82, 82]⟩ : ByteArray), (⟨#[82, 82, 82]⟩ : ByteArray), (⟨#[82, 82, 82]⟩ : ByteArray), (⟨#[82, 45, 45]⟩ : ByteArray), (⟨#[82, 82, 82]⟩ : ByteArray), (⟨#[82, 84, 45]⟩ : ByteArray), (⟨#[45, 84, 45]⟩ : ByteArray), (⟨#[45, 45, 45]⟩ : ByteArray), (⟨#[82, 82, 45]⟩ : ByteArray), (⟨#[82, 82, 45]⟩ : ByteArray), (⟨#[82, 82, 45]⟩ : ByteArray), (⟨#[45, 45, 45]⟩ : ByteArray)] : List ByteArray) : List ByteArray)).bind fun y165 => (if 0 ≤ a0 then (if a0 < (y165.length : Int) then (some (rdOf ByteArray.empty y165 a0)) else (none)) else (none))) else (some (⟨#[]⟩ : ByteArray))) = some r := H
  have A2 := Aside0.mk A20
  clear A20
  by_cases c3 : t164 = true
  · subst c3
    have H1 : ((some (([(⟨#[45, 45, 45]⟩ : ByteArray), (⟨#[82, 87, 45]⟩ : ByteArray), (⟨#[82, 82, 45]⟩ : ByteArray), (⟨#[82, 82, 82]⟩ : ByteArray), (⟨#[82, 82, 82]⟩ : ByteArray), (⟨#[82, 82, 82]⟩ : ByteArray), (⟨#[82, 82, 82]⟩ : ByteArray), (⟨#[82, 82, 82]⟩ : ByteArray), (⟨#[82, 45, 45]⟩ : ByteArray), (⟨#[82, 82, 82]⟩ : ByteArray), (⟨#[82, 84, 45]⟩ : ByteArray), (⟨#[45, 84, 45]⟩ : ByteArray), (⟨#[45, 45, 45]⟩ : ByteArray), (⟨#[82, 82, 45]⟩ : ByteArray), (⟨#[82, 82, 45]⟩ : ByteArray), (⟨#[82, 82, 45]⟩ : ByteArray), (⟨#[45, 45, 45]⟩ : ByteArray)] : List ByteArray) : List ByteArray)).bind fun y165 => (if 0 ≤ a0 then (if a0 < (y165.length : Int) then (some (rdOf ByteArray.empty y165 a0)) else (none)) else (none))) = some r := by rw [if_pos rfl] at H; exact H
    clear H
    have H := H1
    clear H1
    obtain ⟨y165, hy165⟩ : ∃ y_ : List ByteArray, y_ = (([(⟨#[45, 45, 45]⟩ : ByteArray), (⟨#[82, 87, 45]⟩ : ByteArray), (⟨#[82, 82, 45]⟩ : ByteArray), (⟨#[82, 82, 82]⟩ : ByteArray), (⟨#[82, 82, 82]⟩ : ByteArray), (⟨#[82, 82, 82]⟩ : ByteArray), (⟨#[82, 82, 82]⟩ : ByteArray), (⟨#[82, 82, 82]⟩ : ByteArray), (⟨#[82, 45, 45]⟩ : ByteArray), (⟨#[82, 82, 82]⟩ : ByteArray), (⟨#[82, 84, 45]⟩ : ByteArray), (⟨#[45, 84, 45]⟩ : ByteArray), (⟨#[45, 45, 45]⟩ : ByteArray), (⟨#[82, 82, 45]⟩ : ByteArray), (⟨#[82, 82, 45]⟩ : ByteArray), (⟨#[82, 82, 45]⟩ : ByteArray), (⟨#[45, 45, 45]⟩ : ByteArray)] : List ByteArray)) := ⟨_, rfl⟩
    replace H : (if 0 ≤ a0 then (if a0 < (y165.length : Int) then (some (rdOf ByteArray.empty y165 a0)) else (none)) else (none)) = some r := by first | (rw [hy165]; with_reducible exact H) | (have H2_ := (Option.bind_some _ _).symm.trans H; rw [hy165]; with_reducible exact H2_) | (have H2_ := (Option.bind_some _ _).symm.trans H; with_reducible exact H2_) | with_reducible exact H | (rw [hy165]; exact H) | exact H
    have Ny165 := Aside0.mk hy165
    clear hy165
    by_cases c4 : 0 ≤ a0
    · rw [if_pos c4] at H
      have c4b0 : decide (0 ≤ a0) = true := decide_eq_true c4
      clear c4
      by_cases c5 : a0 < (y165.length : Int)
      · rw [if_pos c5] at H
        have c5b0 : decide (a0 < (y165.length : Int)) = true := decide_eq_true c5
        clear c5
        obtain rfl := Option.some.inj H
        go_enter Tryd.func53, Tryd.ntmps53
        go_wp2_with (first | ((with_reducible refine gate_callee (f := 63) rfl ?_); refine goesL_ (some 4) rfl rfl Tryd.func63 (by kernel_rfl) rfl #[.int .i64 a0, .int .i64 0, .int .i64 16] rfl (by (try simp only [List.map_toArray, List.map_cons, List.map_nil]); first | done | rfl | (simp only [List.length_drop, List.length_take]; rfl)) ?_; (with_reducible refine (impl_within.calls a0 0 16 true _ A2.out).mono ?_); rintro e w' ⟨rfl, ⟨nd, rfl⟩⟩; refine ⟨_, rfl, ?_⟩) | ((with_reducible refine gate_dst (N := 6) rfl ?_); refine Kd.R_lit Kd.string _ 9 ?hg (N := 6) ?hd (xs := ([(⟨#[45, 45, 45]⟩ : ByteArray), (⟨#[82, 87, 45]⟩ : ByteArray), (⟨#[82, 82, 45]⟩ : ByteArray), (⟨#[82, 82, 82]⟩ : ByteArray), (⟨#[82, 82, 82]⟩ : ByteArray), (⟨#[82, 82, 82]⟩ : ByteArray), (⟨#[82, 82, 82]⟩ : ByteArray), (⟨#[82, 82, 82]⟩ : ByteArray), (⟨#[82, 45, 45]⟩ : ByteArray), (⟨#[82, 82, 82]⟩ : ByteArray), (⟨#[82, 84, 45]⟩ : ByteArray), (⟨#[45, 84, 45]⟩ : ByteArray), (⟨#[45, 45, 45]⟩ : ByteArray), (⟨#[82, 82, 45]⟩ : ByteArray), (⟨#[82, 82, 45]⟩ : ByteArray), (⟨#[82, 82, 45]⟩ : ByteArray), (⟨#[45, 45, 45]⟩ : ByteArray)] : List ByteArray)) (inner := [.string (⟨#[45, 45, 45]⟩ : ByteArray), .string (⟨#[82, 87, 45]⟩ : ByteArray), .string (⟨#[82, 82, 45]⟩ : ByteArray), .string (⟨#[82, 82, 82]⟩ : ByteArray), .string (⟨#[82, 82, 82]⟩ : ByteArray), .string (⟨#[82, 82, 82]⟩ : ByteArray), .string (⟨#[82, 82, 82]⟩ : ByteArray), .string (⟨#[82, 82, 82]⟩ : ByteArray), .string (⟨#[82, 45, 45]⟩ : ByteArray), .string (⟨#[82, 82, 82]⟩ : ByteArray), .string (⟨#[82, 84, 45]⟩ : ByteArray), .string (⟨#[45, 84, 45]⟩ : ByteArray), .string (⟨#[45, 45, 45]⟩ : ByteArray), .string (⟨#[82, 82, 45]⟩ : ByteArray), .string (⟨#[82, 82, 45]⟩ : ByteArray), .string (⟨#[82, 82, 45]⟩ : ByteArray), .string (⟨#[45, 45, 45]⟩ : ByteArray)]) (ok := fun _ => True) (okp := fun _ => True) ?hr ?hp (fun _ hk => hk) trivial (Below.refl _ _) (Nat.le_refl _) (by simp) ?_; (case hd => rfl); (case hg => rfl); (case hr => first | (go_simp; done) | (go_simp; rfl)); (case hp => exact (Reps.one (show Kd.M Kd.string _ _ _ (⟨#[45, 45, 45]⟩ : ByteArray) [.string (⟨#[45, 45, 45]⟩ : ByteArray)] from rfl) (Reps.one (show Kd.M Kd.string _ _ _ (⟨#[82, 87, 45]⟩ : ByteArray) [.string (⟨#[82, 87, 45]⟩ : ByteArray)] from rfl) (Reps.one (show Kd.M Kd.string _ _ _ (⟨#[82, 82, 45]⟩ : ByteArray) [.string (⟨#[82, 82, 45]⟩ : ByteArray)] from rfl) (Reps.one (show Kd.M Kd.string _ _ _ (⟨#[82, 82, 82]⟩ : ByteArray) [.string (⟨#[82, 82, 82]⟩ : ByteArray)] from rfl) (Reps.one (show Kd.M Kd.string _ _ _ (⟨#[82, 82, 82]⟩ : ByteArray) [.string (⟨#[82, 82, 82]⟩ : ByteArray)] from rfl) (Reps.one (show Kd.M Kd.string _ _ _ (⟨#[82, 82, 82]⟩ : ByteArray) [.string (⟨#[82, 82, 82]⟩ : ByteArray)] from rfl) (Reps.one (show Kd.M Kd.string _ _ _ (⟨#[82, 82, 82]⟩ : ByteArray) [.string (⟨#[82, 82, 82]⟩ : ByteArray)] from rfl) (Reps.one (show Kd.M Kd.string _ _ _ (⟨#[82, 82, 82]⟩ : ByteArray) [.string (⟨#[82, 82, 82]⟩ : ByteArray)] from rfl) (Reps.one (show Kd.M Kd.string _ _ _ (⟨#[82, 45, 45]⟩ : ByteArray) [.string (⟨#[82, 45, 45]⟩ : ByteArray)] from rfl) (Reps.one (show Kd.M Kd.string _ _ _ (⟨#[82, 82, 82]⟩ : ByteArray) [.string (⟨#[82, 82, 82]⟩ : ByteArray)] from rfl) (Reps.one (show Kd.M Kd.string _ _ _ (⟨#[82, 84, 45]⟩ : ByteArray) [.string (⟨#[82, 84, 45]⟩ : ByteArray)] from rfl) (Reps.one (show Kd.M Kd.string _ _ _ (⟨#[45, 84, 45]⟩ : ByteArray) [.string (⟨#[45, 84, 45]⟩ : ByteArray)] from rfl) (Reps.one (show Kd.M Kd.string _ _ _ (⟨#[45, 45, 45]⟩ : ByteArray) [.string (⟨#[45, 45, 45]⟩ : ByteArray)] from rfl) (Reps.one (show Kd.M Kd.string _ _ _ (⟨#[82, 82, 45]⟩ : ByteArray) [.string (⟨#[82, 82, 45]⟩ : ByteArray)] from rfl) (Reps.one (show Kd.M Kd.string _ _ _ (⟨#[82, 82, 45]⟩ : ByteArray) [.string (⟨#[82, 82, 45]⟩ : ByteArray)] from rfl) (Reps.one (show Kd.M Kd.string _ _ _ (⟨#[82, 82, 45]⟩ : ByteArray) [.string (⟨#[82, 82, 45]⟩ : ByteArray)] from rfl) (Reps.one (show Kd.M Kd.string _ _ _ (⟨#[45, 45, 45]⟩ : ByteArray) [.string (⟨#[45, 45, 45]⟩ : ByteArray)] from rfl) (Reps.none _ _))))))))))))))))))); intro v166 w6 ho7 hb hg_ hnew_; clear hg_ hnew_; (first | rw [← Ny165.out] at ho7 | (simp only [Int.reduceToNat] at ho7; rw [← Ny165.out] at ho7)); have n0_ := Aside0.mk (Kd.R_lower ho7 (below_size (by repeat (first | (with_reducible first | exact HB.out | apply below_alloc | apply pw_below_drewN | apply below_drew1) | exact HB.out)))); have n1_ := Aside0.mk (below_step (by repeat (first | (with_reducible first | exact HB.out | apply below_alloc | apply pw_below_drewN | apply below_drew1) | exact HB.out)) hb); clear HB; have HO167 := n0_; have HB := n1_; clear n0_ n1_; clear hb ho7; obtain ⟨Ao8, co8, eo8⟩ := Kd.R_slice HO167.out; subst eo8; have p168 : 0 ≤ (a0 : Int) := of_decide_eq_true (by first | (with_reducible assumption) | assumption); have q168 : a0 < (y165.length : Int) := of_decide_eq_true (by first | (with_reducible assumption) | assumption); obtain ⟨ad168, e168, hx168_0⟩ := Kd.at_string (Kd.R_reads' HO167.out).2.2 a0 p168 q168; cases e168; replace p168 := eq_true p168; replace q168 := eq_true q168))
        go_ret
        exact ⟨by first | rfl | (simp [errW_none, errW_some] <;> rfl) | (simp [*, errW_none, errW_some] <;> rfl) | (simp [errW_none, errW_some]; exact MakeAid.isEmpty_ne _), by repeat (first | (with_reducible first | exact HB.out | apply below_alloc | apply pw_below_drewN | apply below_drew1) | exact HB.out)⟩
      · rw [if_neg c5] at H
        exact absurd H (by simp)
    · rw [if_neg c4] at H
      exact absurd H (by simp)
  · replace c3 := Bool.eq_false_iff.mpr c3
    subst c3
    have H1 : (some (⟨#[]⟩ : ByteArray)) = some r := by rw [if_neg (show ¬ (false = true) by decide)] at H; exact H
    clear H
    have H := H1
    clear H1
    obtain rfl := Option.some.inj H
    go_enter Tryd.func53, Tryd.ntmps53
    go_wp2_with (first | ((with_reducible refine gate_callee (f := 63) rfl ?_); refine goesL_ (some 4) rfl rfl Tryd.func63 (by kernel_rfl) rfl #[.int .i64 a0, .int .i64 0, .int .i64 16] rfl (by (try simp only [List.map_toArray, List.map_cons, List.map_nil]); first | done | rfl | (simp only [List.length_drop, List.length_take]; rfl)) ?_; (with_reducible refine (impl_within.calls a0 0 16 false _ A2.out).mono ?_); rintro e w' ⟨rfl, ⟨nd, rfl⟩⟩; refine ⟨_, rfl, ?_⟩))
    go_ret
    exact ⟨by first | rfl | (simp [errW_none, errW_some] <;> rfl) | (simp [*, errW_none, errW_some] <;> rfl) | (simp [errW_none, errW_some]; exact MakeAid.isEmpty_ne _), by repeat (first | (with_reducible first | exact HB.out | apply below_alloc | apply pw_below_drewN | apply below_drew1) | exact HB.out)⟩

/-! ### impl_isReg: function 90 -/
def impl_isReg.f (a0 : Int) : Option (Bool) := (impl_within.f a0 0 3).bind fun t169 => (some t169)
set_option maxHeartbeats 8000000 in
set_option maxRecDepth 100000 in
theorem impl_isReg.calls (a0 : Int) (r : Bool) (w : World) (h : impl_isReg.f a0 = some r) :
    Calls Tryd.prog 90 #[.int .i64 a0] w fun e w' => e = .returned (.bool r) ∧ Drawn0 w w' := by
  have H : ((impl_within.f a0 0 3).bind fun t169 => (some t169)) = some r := h
  clear h
  replace H := Option.bind_eq_some_iff.mp H
  obtain ⟨t169, A20, H⟩ := H
  replace H : (some t169) = some r := H
  have A2 := Aside0.mk A20
  clear A20
  obtain rfl := Option.some.inj H
  go_enter Tryd.func90, Tryd.ntmps90
  go_wp2_with (first | ((with_reducible refine gate_callee (f := 63) rfl ?_); refine goesL_ (some 4) rfl rfl Tryd.func63 (by kernel_rfl) rfl #[.int .i64 a0, .int .i64 0, .int .i64 3] rfl (by (try simp only [List.map_toArray, List.map_cons, List.map_nil]); first | done | rfl | (simp only [List.length_drop, List.length_take]; rfl)) ?_; (with_reducible refine (impl_within.calls a0 0 3 t169 _ A2.out).mono ?_); rintro e w' ⟨rfl, ⟨nd, rfl⟩⟩; refine ⟨_, rfl, ?_⟩))
  go_ret
  exact ⟨by first | rfl | (simp; done) | (simp [*]; done), by repeat (first | exact Drawn0.refl _ | apply Drawn0.step)⟩

/-! ### impl_IsWord: function 91 -/
def impl_IsWord.f (a0 : Int) : Option (Bool) := (impl_within.f a0 0 65535).bind fun t170 => (some t170)
set_option maxHeartbeats 8000000 in
set_option maxRecDepth 100000 in
theorem impl_IsWord.calls (a0 : Int) (r : Bool) (w : World) (h : impl_IsWord.f a0 = some r) :
    Calls Tryd.prog 91 #[.int .i64 a0] w fun e w' => e = .returned (.bool r) ∧ Drawn0 w w' := by
  have H : ((impl_within.f a0 0 65535).bind fun t170 => (some t170)) = some r := h
  clear h
  replace H := Option.bind_eq_some_iff.mp H
  obtain ⟨t170, A20, H⟩ := H
  replace H : (some t170) = some r := H
  have A2 := Aside0.mk A20
  clear A20
  obtain rfl := Option.some.inj H
  go_enter Tryd.func91, Tryd.ntmps91
  go_wp2_with (first | ((with_reducible refine gate_callee (f := 63) rfl ?_); refine goesL_ (some 4) rfl rfl Tryd.func63 (by kernel_rfl) rfl #[.int .i64 a0, .int .i64 0, .int .i64 65535] rfl (by (try simp only [List.map_toArray, List.map_cons, List.map_nil]); first | done | rfl | (simp only [List.length_drop, List.length_take]; rfl)) ?_; (with_reducible refine (impl_within.calls a0 0 65535 t170 _ A2.out).mono ?_); rintro e w' ⟨rfl, ⟨nd, rfl⟩⟩; refine ⟨_, rfl, ?_⟩))
  go_ret
  exact ⟨by first | rfl | (simp; done) | (simp [*]; done), by repeat (first | exact Drawn0.refl _ | apply Drawn0.step)⟩

/-! ### impl_isField: function 77 -/
def impl_isField.f (a0 : Int) (a1 : Int) (a2 : Int) : Option (Bool) := if a0 = 82 then ((impl_isReg.f a1).bind fun t171 => (some t171)) else (if a0 = 87 then ((impl_IsWord.f a1).bind fun t172 => (some t172)) else (if a0 = 84 then ((impl_within.f a1 0 a2).bind fun t173 => (some t173)) else (some (a1 == 0))))
set_option maxHeartbeats 8000000 in
set_option maxRecDepth 100000 in
theorem impl_isField.calls (a0 : Int) (a1 : Int) (a2 : Int) (r : Bool) (w : World) (h : impl_isField.f a0 a1 a2 = some r) :
    Calls Tryd.prog 77 #[.int .u8 a0, .int .i64 a1, .int .i64 a2] w fun e w' => e = .returned (.bool r) ∧ Drawn0 w w' := by
  have H : (if a0 = 82 then ((impl_isReg.f a1).bind fun t171 => (some t171)) else (if a0 = 87 then ((impl_IsWord.f a1).bind fun t172 => (some t172)) else (if a0 = 84 then ((impl_within.f a1 0 a2).bind fun t173 => (some t173)) else (some (a1 == 0))))) = some r := h
  clear h
  by_cases c4 : a0 = 82
  · rw [if_pos c4] at H
    have c4b0 : (a0 == 82) = true := beq_iff_eq.mpr c4
    have c4b1 : (a0 != 82) = false := bne_eq_false_iff_eq.mpr c4
    clear c4
    replace H := Option.bind_eq_some_iff.mp H
    obtain ⟨t171, A50, H⟩ := H
    replace H : (some t171) = some r := H
    have A5 := Aside0.mk A50
    clear A50
    obtain rfl := Option.some.inj H
    go_enter Tryd.func77, Tryd.ntmps77
    go_wp2_with (first | ((with_reducible refine gate_callee (f := 90) rfl ?_); refine goesL_ (some 11) rfl rfl Tryd.func90 (by kernel_rfl) rfl #[.int .i64 a1] rfl (by (try simp only [List.map_toArray, List.map_cons, List.map_nil]); first | done | rfl | (simp only [List.length_drop, List.length_take]; rfl)) ?_; (with_reducible refine (impl_isReg.calls a1 t171 _ A5.out).mono ?_); rintro e w' ⟨rfl, ⟨nd, rfl⟩⟩; refine ⟨_, rfl, ?_⟩))
    go_ret
    exact ⟨by first | rfl | (simp; done) | (simp [*]; done), by repeat (first | exact Drawn0.refl _ | apply Drawn0.step)⟩
  · rw [if_neg c4] at H
    have c4b0 : (a0 == 82) = false := beq_eq_false_iff_ne.mpr c4
    have c4b1 : (a0 != 82) = true := bne_iff_ne.mpr c4
    by_cases c6 : a0 = 87
    · rw [if_pos c6] at H
      have c6b0 : (a0 == 87) = true := beq_iff_eq.mpr c6
      have c6b1 : (a0 != 87) = false := bne_eq_false_iff_eq.mpr c6
      clear c6
      replace H := Option.bind_eq_some_iff.mp H
      obtain ⟨t172, A70, H⟩ := H
      replace H : (some t172) = some r := H
      have A7 := Aside0.mk A70
      clear A70
      obtain rfl := Option.some.inj H
      go_enter Tryd.func77, Tryd.ntmps77
      go_wp2_with (first | ((with_reducible refine gate_callee (f := 91) rfl ?_); refine goesL_ (some 15) rfl rfl Tryd.func91 (by kernel_rfl) rfl #[.int .i64 a1] rfl (by (try simp only [List.map_toArray, List.map_cons, List.map_nil]); first | done | rfl | (simp only [List.length_drop, List.length_take]; rfl)) ?_; (with_reducible refine (impl_IsWord.calls a1 t172 _ A7.out).mono ?_); rintro e w' ⟨rfl, ⟨nd, rfl⟩⟩; refine ⟨_, rfl, ?_⟩))
      go_ret
      exact ⟨by first | rfl | (simp; done) | (simp [*]; done), by repeat (first | exact Drawn0.refl _ | apply Drawn0.step)⟩
    · rw [if_neg c6] at H
      have c6b0 : (a0 == 87) = false := beq_eq_false_iff_ne.mpr c6
      have c6b1 : (a0 != 87) = true := bne_iff_ne.mpr c6
      by_cases c8 : a0 = 84
      · rw [if_pos c8] at H
        have c8b0 : (a0 == 84) = true := beq_iff_eq.mpr c8
        have c8b1 : (a0 != 84) = false := bne_eq_false_iff_eq.mpr c8
        clear c8
        replace H := Option.bind_eq_some_iff.mp H
        obtain ⟨t173, A90, H⟩ := H
        replace H : (some t173) = some r := H
        have A9 := Aside0.mk A90
        clear A90
        obtain rfl := Option.some.inj H
        go_enter Tryd.func77, Tryd.ntmps77
        go_wp2_with (first | ((with_reducible refine gate_callee (f := 63) rfl ?_); refine goesL_ (some 20) rfl rfl Tryd.func63 (by kernel_rfl) rfl #[.int .i64 a1, .int .i64 0, .int .i64 a2] rfl (by (try simp only [List.map_toArray, List.map_cons, List.map_nil]); first | done | rfl | (simp only [List.length_drop, List.length_take]; rfl)) ?_; (with_reducible refine (impl_within.calls a1 0 a2 t173 _ A9.out).mono ?_); rintro e w' ⟨rfl, ⟨nd, rfl⟩⟩; refine ⟨_, rfl, ?_⟩))
        go_ret
        exact ⟨by first | rfl | (simp; done) | (simp [*]; done), by repeat (first | exact Drawn0.refl _ | apply Drawn0.step)⟩
      · rw [if_neg c8] at H
        have c8b0 : (a0 == 84) = false := beq_eq_false_iff_ne.mpr c8
        have c8b1 : (a0 != 84) = true := bne_iff_ne.mpr c8
        obtain rfl := Option.some.inj H
        go_enter Tryd.func77, Tryd.ntmps77
        go_wp2
        go_ret
        exact ⟨by first | rfl | (simp; done) | (simp [*]; done), by repeat (first | exact Drawn0.refl _ | apply Drawn0.step)⟩

end Go.Proofs.YtionemdnfhcfpaaDoor.HR
