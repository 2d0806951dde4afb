/- What the laws over rooms call: limits, numbers that an input chooses, roles. -/
import Derived.Test.YtglhepbcbildpaaSrc
import Derived.Test.YtglhepbcbildpaaMayTo
import Derived.Deep.RegionHeld3
import Derived.Laws.StructEq
namespace Go.Proofs.Ytglhepbcbildpaa
open Go Go.RowKit Go.BigFrame
attribute [local go_sem] Calm.cell Calm.frozen
set_option linter.unusedVariables false
set_option linter.unusedSimpArgs false
set_option maxRecDepth 100000

theorem eqFields_ints {P : Program} {t : TypeId} (ht : P.underlying t = some (.int .i64)) (w : World) : ∀ (fs : List Field) (xs ys : List Int) (d k : Nat) (X Y : Array Value), fs.map (fun f => (f.type, f.offset, decide (f.name ≠ "_"))) = (List.range fs.length).map (fun j => (t, k + j, true)) → fs.length = xs.length → fs.length = ys.length →
    (∀ j (x : Int), xs[j]? = some x → (part t X (k + j)).run P w = .ok (.int .i64 x) w) → (∀ j (x : Int), ys[j]? = some x → (part t Y (k + j)).run P w = .ok (.int .i64 x) w) → (Op.eqFields (d + 1) X Y fs).run P w = .ok (decide (xs = ys)) w
  | [], xs, ys, d, k, X, Y, _, h1, h2, _, _ => by
    have e1 : xs = [] := List.eq_nil_of_length_eq_zero h1.symm
    have e2 : ys = [] := List.eq_nil_of_length_eq_zero h2.symm
    subst e1 e2
    simp [Op.eqFields]
  | f :: fs, [], ys, d, k, X, Y, _, h1, _, _, _ => by simp at h1
  | f :: fs, x :: xs, [], d, k, X, Y, _, _, h2, _, _ => by simp at h2
  | f :: fs, x :: xs, y :: ys, d, k, X, Y, hf, h1, h2, hx, hy => by
    rw [List.map_cons, List.length_cons, List.range_succ_eq_map, List.map_cons, List.cons.injEq] at hf
    obtain ⟨hf0, hf⟩ := hf
    simp only [Prod.mk.injEq, decide_eq_true_eq] at hf0
    obtain ⟨e1, e2, e3⟩ := hf0
    have ih := eqFields_ints ht w fs xs ys d (k + 1) X Y (by rw [hf, List.map_map]; apply List.map_congr_left; intro j _; simp; omega) (by simpa using h1) (by simpa using h2)
      (fun j u hu => by have := hx (j + 1) u (by simpa using hu); rw [show k + 1 + j = k + (j + 1) by omega]; exact this) (fun j u hu => by have := hy (j + 1) u (by simpa using hu); rw [show k + 1 + j = k + (j + 1) by omega]; exact this)
    unfold Op.eqFields
    rw [if_pos e3, e1, e2]
    have hx0 := hx 0 x rfl
    have hy0 := hy 0 y rfl
    simp only [Sem.run_bind, hx0, hy0, Result.andThen_ok, run_equalIn_int w d t .i64 .i64 x y ht]
    by_cases hxy : x = y
    · subst hxy
      simp only [beq_self_eq_true, Bool.not_true, Bool.false_eq_true, if_false]
      rw [ih]
      simp
    · have : (x == y) = false := by simpa using hxy
      simp [this, hxy]
theorem r8Long_c (A B : Option Addr) (n m c d : Nat) (w : World) : Calls Try.prog 4 #[.slice A n c, .slice B m d] w fun e w' => e = .returned (.bool (decide (48 < n) || decide (48 < m))) ∧ w = w' := by
  by_cases h1 : 48 < n
  · have h2 : (48 : Int) < (n : Int) := by omega
    go_enter Try.func4, Try.ntmps4
    go_wp2_with fail
    go_ret
    exact ⟨by simp [h1], rfl⟩
  · have h2 : ¬ (48 : Int) < (n : Int) := by omega
    by_cases h3 : 48 < m
    · have h4 : (48 : Int) < (m : Int) := by omega
      go_enter Try.func4, Try.ntmps4
      go_wp2_with fail
      go_ret
      exact ⟨by simp [h3], rfl⟩
    · have h4 : ¬ (48 : Int) < (m : Int) := by omega
      go_enter Try.func4, Try.ntmps4
      go_wp2_with fail
      go_ret
      exact ⟨by simp [h1, h3], rfl⟩
theorem r8At_c (code : List UInt8) (A : Option Addr) (c : Nat) (k n : Int) (w : World) (hc : SliceK srcD w (.slice A code.length c) code) (hk : 0 ≤ k) (hn : 1 ≤ n) :
    Calls Try.prog 6 #[.slice A code.length c, .int .i64 k, .int .i64 n] w fun e w' => ∃ x : Int, e = .returned (.int .i64 x) ∧ 0 ≤ x ∧ x < n ∧ w = w' := by
  by_cases h1 : n ≤ 1
  · go_enter Try.func6, Try.ntmps6
    go_wp2_with fail
    go_ret
    exact ⟨0, rfl, by omega, by omega, rfl⟩
  · by_cases h2 : (code.length : Int) ≤ k
    · go_enter Try.func6, Try.ntmps6
      go_wp2_with fail
      go_ret
      exact ⟨0, rfl, by omega, by omega, rfl⟩
    · obtain ⟨j, rfl⟩ : ∃ j : Nat, k = (j : Int) := ⟨k.toNat, by omega⟩
      have hlt : j < code.length := by omega
      obtain ⟨y, hy⟩ : ∃ y, code[j]? = some y := ⟨_, List.getElem?_eq_getElem hlt⟩
      obtain ⟨A', c', heq, hlc, hmx, hra⟩ := hc
      simp only [Value.slice.injEq] at heq
      obtain ⟨rfl, -, rfl⟩ := heq
      rcases hra with hnil | ⟨q, o2, rfl, hra⟩
      · rw [hnil] at hlt; simp at hlt
      obtain ⟨hq, hc0⟩ := src_at hra (Below.refl _ _) hy
      have hlt2 : (j : Int) < (code.length : Int) := by omega
      have hn0 : ¬ n = 0 := by omega
      have hn1 : ¬ n = -1 := by omega
      clear hra hy
      go_enter Try.func6, Try.ntmps6
      go_wp2_with fail
      go_ret
      have hz : 0 ≤ wrap64 (y.toNat : Int) := by unfold wrap64; have := y.toNat_lt; omega
      exact ⟨_, rfl, Int.tmod_nonneg _ hz, Int.tmod_lt_of_pos _ (by omega), rfl⟩
def roOk (r : Room) (n : Int) : Bool := validRoomB r && hasId r n
def roV (r : Room) (n : Int) : Int := if roOk r n then roleAt r n else 0
set_option maxHeartbeats 4000000 in
theorem roleOf_c (r : Room) (n : Int) (v1 v2 v3 : Value) (w : World) (h1 : SliceK memberD w v1 r.members) (h2 : SliceK inviteD w v2 r.invites) (h3 : SliceK banD w v3 r.bans) :
    Calls Try.prog 13 #[.agg #[.bool r.open_, v1, v2, v3], .int .i64 n] w fun e w' => e = .returned (.tuple #[.int .i64 (roV r n), .bool (roOk r n)]) ∧ Below w.heap.size w w' := by
  obtain ⟨A1, c1, rfl⟩ := h1.shape
  obtain ⟨A2, c2, rfl⟩ := h2.shape
  obtain ⟨A3, c3, rfl⟩ := h3.shape
  have H1 := hide h1
  have H2 := hide h2
  have H3 := hide h3
  clear h1 h2 h3
  have HS0 := hide (show St w (w.alloc (.cells #[.bool r.open_, .slice A1 r.members.length c1, .slice A2 r.invites.length c2, .slice A3 r.bans.length c3] 28)) [blk w.heap.size #[.bool r.open_, .slice A1 r.members.length c1, .slice A2 r.invites.length c2, .slice A3 r.bans.length c3] 28] by (repeat (first | (with_reducible exact St.start w) | (with_reducible apply St.alloc) | (with_reducible apply St.set0) | (with_reducible apply St.set1) | (with_reducible apply St.set2) | (with_reducible apply St.set3) | (with_reducible apply St.drew) | (with_reducible apply St.drewN))); all_goals (try (first | rfl | (simp; done))))
  (try clear x0 x1 x2 x3 xz)
  have x := HS0.out.at0
  obtain ⟨x0, x1, x2, x3⟩ := x.c4
  have xz := x.lt
  clear x
  by_cases hv : validRoomB r = true
  · have HV := hide hv
    by_cases hh : hasId r n = true
    · have HH := hide hh
      obtain ⟨k, m, hk, hlk, hx, hmn⟩ := idxP_found (show 0 ≤ idxP (idIs n) r.members by unfold hasId at hh; simpa using hh)
      have HR := hide (show roV r n = m.role by unfold roV roOk; rw [hv, hh]; exact roleAt_at hk hx)
      have HO := hide (show roOk r n = true by unfold roOk; rw [hv, hh]; rfl)
      obtain ⟨A1', c1', heq, hlc, hmx, hra⟩ := H1.out
      simp only [Value.slice.injEq] at heq
      obtain ⟨rfl, -, rfl⟩ := heq
      rcases hra with hnil | ⟨q, o2, rfl, hra⟩
      · rw [hnil] at hlk; simp at hlk
      have HRA := hide hra
      have HX := hide hx
      have hlt2 : (k : Int) < (r.members.length : Int) := by omega
      clear hv hh hx hmn hra
      go_enter Try.func13, Try.ntmps13
      go_wp2_with fail
      refine (validRoom_c r _ _ _ _ (H1.out.below HS0.out.below) (H2.out.below HS0.out.below) (H3.out.below HS0.out.below)).mono ?_
      rintro e w1 ⟨rfl, hb⟩
      rw [HV.out]
      have HS1 := hide (HS0.out.by hb)
      clear hb
      (try clear x0 x1 x2 x3 xz)
      have x := HS1.out.at0
      obtain ⟨x0, x1, x2, x3⟩ := x.c4
      have xz := x.lt
      clear x
      go_wp2_with fail
      refine (roomHas_c r _ _ n _ (Blk.rowAt (d := roomD) (x := r) HS1.out.at0 (room_K_mk (H1.out.below HS1.out.below) (H2.out.below HS1.out.below) (H3.out.below HS1.out.below)) rfl)).mono ?_
      rintro e w2 ⟨rfl, hb⟩
      rw [HH.out]
      have HS2 := hide (HS1.out.by hb)
      clear hb
      (try clear x0 x1 x2 x3 xz)
      have x := HS2.out.at0
      obtain ⟨x0, x1, x2, x3⟩ := x.c4
      have xz := x.lt
      clear x
      obtain ⟨hq, hc0, hc1, hc2, hc3⟩ := member_at HRA.out HS2.out.below HX.out
      go_wp2_with fail
      (refine wp_region_calm (by kernel_rfl) (by kernel_rfl) ?_; (repeat (first | go_big_quiet_skip | (go_big_quiet_want; go_big_quiet_op; (first | go_big_quiet_on | (apply Exists.intro; refine ⟨fun ic => ?_, ?_⟩; (focus (go_at_call 35; refine (roomAt_c r _ _ n _ ((Blk.rowAt (d := roomD) (x := r) HS2.out.at0 (room_K_mk (H1.out.below HS2.out.below) (H2.out.below HS2.out.below) (H3.out.below HS2.out.below)) rfl).below ic.below)).mono ?_; rintro e w3 ⟨rfl, hb⟩; rw [hk]; exact ⟨rfl, Calm.next _ hb⟩; done)); go_big_quiet_on))))); refine wpQuiet_nil ?_; intro wq hwq; obtain ⟨iq, hwe⟩ := hwq; subst hwe)
      go_wp2_with fail
      go_ret2
      exact ⟨by rw [HR.out, HO.out]; rfl, below_step HS2.out.below iq.below⟩
    · have HH := hide (show hasId r n = false by simpa using hh)
      have HO := hide (show roOk r n = false by unfold roOk; rw [HH.out, Bool.and_false])
      have HR := hide (show roV r n = 0 by unfold roV; rw [HO.out]; rfl)
      clear hv hh
      go_enter Try.func13, Try.ntmps13
      go_wp2_with fail
      refine (validRoom_c r _ _ _ _ (H1.out.below HS0.out.below) (H2.out.below HS0.out.below) (H3.out.below HS0.out.below)).mono ?_
      rintro e w1 ⟨rfl, hb⟩
      rw [HV.out]
      have HS1 := hide (HS0.out.by hb)
      clear hb
      (try clear x0 x1 x2 x3 xz)
      have x := HS1.out.at0
      obtain ⟨x0, x1, x2, x3⟩ := x.c4
      have xz := x.lt
      clear x
      go_wp2_with fail
      refine (roomHas_c r _ _ n _ (Blk.rowAt (d := roomD) (x := r) HS1.out.at0 (room_K_mk (H1.out.below HS1.out.below) (H2.out.below HS1.out.below) (H3.out.below HS1.out.below)) rfl)).mono ?_
      rintro e w2 ⟨rfl, hb⟩
      rw [HH.out]
      have HS2 := hide (HS1.out.by hb)
      clear hb
      (try clear x0 x1 x2 x3 xz)
      have x := HS2.out.at0
      obtain ⟨x0, x1, x2, x3⟩ := x.c4
      have xz := x.lt
      clear x
      go_wp2_with fail
      go_ret2
      exact ⟨by rw [HR.out, HO.out]; rfl, HS2.out.below⟩
  · have HV := hide (show validRoomB r = false by simpa using hv)
    have HO := hide (show roOk r n = false by unfold roOk; rw [HV.out, Bool.false_and])
    have HR := hide (show roV r n = 0 by unfold roV; rw [HO.out]; rfl)
    clear hv
    go_enter Try.func13, Try.ntmps13
    go_wp2_with fail
    refine (validRoom_c r _ _ _ _ (H1.out.below HS0.out.below) (H2.out.below HS0.out.below) (H3.out.below HS0.out.below)).mono ?_
    rintro e w1 ⟨rfl, hb⟩
    rw [HV.out]
    have HS1 := hide (HS0.out.by hb)
    clear hb
    (try clear x0 x1 x2 x3 xz)
    have x := HS1.out.at0
    obtain ⟨x0, x1, x2, x3⟩ := x.c4
    have xz := x.lt
    clear x
    go_wp2_with fail
    go_ret2
    exact ⟨by rw [HR.out, HO.out]; rfl, HS1.out.below⟩
end Go.Proofs.Ytglhepbcbildpaa
