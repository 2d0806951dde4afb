/- What the laws over rooms call: limits, numbers that an input chooses, roles. -/
import Derived.Test.YtglhepbcbildpaaGreatSrc
import Derived.Test.YtglhepbcbildpaaGreatMayTo
import Derived.Deep.RegionHeld3
import Derived.Laws.StructEq
namespace Go.Proofs.YtglhepbcbildpaaGreat
open Go Go.RowKit Go.BigFrame
attribute [local go_sem] Calm.cell Calm.frozen
set_option linter.unusedVariables false
set_option linter.unusedSimpArgs false
set_option maxRecDepth 100000

theorem eqFields_ints {P : Program} {t : TypeId} (ht : P.underlying t = some (.int .i64)) (w : World) : ∀ (fs : List Field) (xs ys : List Int) (d k : Nat) (X Y : Array Value), fs.map (fun f => (f.type, f.offset, decide (f.name ≠ "_"))) = (List.range fs.length).map (fun j => (t, k + j, true)) → fs.length = xs.length → fs.length = ys.length →
    (∀ j (x : Int), xs[j]? = some x → (part t X (k + j)).run P w = .ok (.int .i64 x) w) → (∀ j (x : Int), ys[j]? = some x → (part t Y (k + j)).run P w = .ok (.int .i64 x) w) → (Op.eqFields (d + 1) X Y fs).run P w = .ok (decide (xs = ys)) w
  | [], xs, ys, d, k, X, Y, _, h1, h2, _, _ => by
    have e1 : xs = [] := List.eq_nil_of_length_eq_zero h1.symm
    have e2 : ys = [] := List.eq_nil_of_length_eq_zero h2.symm
    subst e1 e2
    simp [Op.eqFields]
  | f :: fs, [], ys, d, k, X, Y, _, h1, _, _, _ => by simp at h1
  | f :: fs, x :: xs, [], d, k, X, Y, _, _, h2, _, _ => by simp at h2
  | f :: fs, x :: xs, y :: ys, d, k, X, Y, hf, h1, h2, hx, hy => by
    rw [List.map_cons, List.length_cons, List.range_succ_eq_map, List.map_cons, List.cons.injEq] at hf
    obtain ⟨hf0, hf⟩ := hf
    simp only [Prod.mk.injEq, decide_eq_true_eq] at hf0
    obtain ⟨e1, e2, e3⟩ := hf0
    have ih := eqFields_ints ht w fs xs ys d (k + 1) X Y (by rw [hf, List.map_map]; apply List.map_congr_left; intro j _; simp; omega) (by simpa using h1) (by simpa using h2)
      (fun j u hu => by have := hx (j + 1) u (by simpa using hu); rw [show k + 1 + j = k + (j + 1) by omega]; exact this) (fun j u hu => by have := hy (j + 1) u (by simpa using hu); rw [show k + 1 + j = k + (j + 1) by omega]; exact this)
    unfold Op.eqFields
    rw [if_pos e3, e1, e2]
    have hx0 := hx 0 x rfl
    have hy0 := hy 0 y rfl
    simp only [Sem.run_bind, hx0, hy0, Result.andThen_ok, run_equalIn_int w d t .i64 .i64 x y ht]
    by_cases hxy : x = y
    · subst hxy
      simp only [beq_self_eq_true, Bool.not_true, Bool.false_eq_true, if_false]
      rw [ih]
      simp
    · have : (x == y) = false := by simpa using hxy
      simp [this, hxy]
theorem stoodM : (Tryz.prog).stoodInHeld 55 = false := by kernel_rfl
theorem guardM : (Tryz.prog).eqGuardType (Tryz.prog).depth 55 = false := by kernel_rfl
theorem neqMember (x y : Member) (w : World) : (binOp .neq 55 (.agg #[.int .i64 x.id, .int .i64 x.role, .int .i64 x.since, .int .i64 x.quiet]) (.agg #[.int .i64 y.id, .int .i64 y.role, .int .i64 y.since, .int .i64 y.quiet])).run Tryz.prog w = .ok (.bool (!(decide (x = y)))) w := by
  have hu : Tryz.prog.underlying 2 = some (.int .i64) := Tryz.underlying2
  rw [run_neq_struct, run_equalIn_agg (ht := by kernel_rfl) (hp := stoodM)]
  have hl : ((Tryz.prog).fieldsOf 55).toList.length = 4 := by kernel_rfl
  rw [eqFields_ints (d := 9998) (k := 0) hu w _ [x.id, x.role, x.since, x.quiet] [y.id, y.role, y.since, y.quiet] _ _ (by rw [hl]; kernel_rfl) (by rw [hl]; rfl) (by rw [hl]; rfl) ?_ ?_]
  · have e : decide ([x.id, x.role, x.since, x.quiet] = [y.id, y.role, y.since, y.quiet]) = decide (x = y) := by
      cases x; cases y; simp
    rw [e]; rfl
  · intro j u hu
    match j, hu with
    | 0, hu => cases hu; simp [go_sem]
    | 1, hu => cases hu; simp [go_sem]
    | 2, hu => cases hu; simp [go_sem]
    | 3, hu => cases hu; simp [go_sem]
    | _ + 4, hu => simp at hu
  · intro j u hu
    match j, hu with
    | 0, hu => cases hu; simp [go_sem]
    | 1, hu => cases hu; simp [go_sem]
    | 2, hu => cases hu; simp [go_sem]
    | 3, hu => cases hu; simp [go_sem]
    | _ + 4, hu => simp at hu
attribute [local go_sem ↓] neqMember
attribute [local go_sem] guardM
theorem r8Long_c (A B : Option Addr) (n m c d : Nat) (w : World) : Calls Tryz.prog 5 #[.slice A n c, .slice B m d] w fun e w' => e = .returned (.bool (decide (48 < n) || decide (48 < m))) ∧ w = w' := by
  by_cases h1 : 48 < n
  · have h2 : (48 : Int) < (n : Int) := by omega
    go_enter Tryz.func5, Tryz.ntmps5
    go_wp2_with fail
    go_ret
    exact ⟨by simp [h1], rfl⟩
  · have h2 : ¬ (48 : Int) < (n : Int) := by omega
    by_cases h3 : 48 < m
    · have h4 : (48 : Int) < (m : Int) := by omega
      go_enter Tryz.func5, Tryz.ntmps5
      go_wp2_with fail
      go_ret
      exact ⟨by simp [h3], rfl⟩
    · have h4 : ¬ (48 : Int) < (m : Int) := by omega
      go_enter Tryz.func5, Tryz.ntmps5
      go_wp2_with fail
      go_ret
      exact ⟨by simp [h1, h3], rfl⟩
theorem r8At_c (code : List UInt8) (A : Option Addr) (c : Nat) (k n : Int) (w : World) (hc : SliceK srcD w (.slice A code.length c) code) (hk : 0 ≤ k) (hn : 1 ≤ n) :
    Calls Tryz.prog 7 #[.slice A code.length c, .int .i64 k, .int .i64 n] w fun e w' => ∃ x : Int, e = .returned (.int .i64 x) ∧ 0 ≤ x ∧ x < n ∧ w = w' := by
  by_cases h1 : n ≤ 1
  · go_enter Tryz.func7, Tryz.ntmps7
    go_wp2_with fail
    go_ret
    exact ⟨0, rfl, by omega, by omega, rfl⟩
  · by_cases h2 : (code.length : Int) ≤ k
    · go_enter Tryz.func7, Tryz.ntmps7
      go_wp2_with fail
      go_ret
      exact ⟨0, rfl, by omega, by omega, rfl⟩
    · obtain ⟨j, rfl⟩ : ∃ j : Nat, k = (j : Int) := ⟨k.toNat, by omega⟩
      have hlt : j < code.length := by omega
      obtain ⟨y, hy⟩ : ∃ y, code[j]? = some y := ⟨_, List.getElem?_eq_getElem hlt⟩
      obtain ⟨A', c', heq, hlc, hmx, hra⟩ := hc
      simp only [Value.slice.injEq] at heq
      obtain ⟨rfl, -, rfl⟩ := heq
      rcases hra with hnil | ⟨q, o2, rfl, hra⟩
      · rw [hnil] at hlt; simp at hlt
      obtain ⟨hq, hc0⟩ := src_at hra (Below.refl _ _) hy
      have hlt2 : (j : Int) < (code.length : Int) := by omega
      have hn0 : ¬ n = 0 := by omega
      have hn1 : ¬ n = -1 := by omega
      clear hra hy
      go_enter Tryz.func7, Tryz.ntmps7
      go_wp2_with fail
      go_ret
      have hz : 0 ≤ wrap64 (y.toNat : Int) := by unfold wrap64; have := y.toNat_lt; omega
      exact ⟨_, rfl, Int.tmod_nonneg _ hz, Int.tmod_lt_of_pos _ (by omega), rfl⟩
def roOk (r : Room) (n : Int) : Bool := validRoomB r && hasId r n
def roV (r : Room) (n : Int) : Int := if roOk r n then roleAt r n else 0
set_option maxHeartbeats 4000000 in
theorem roleOf_c (r : Room) (n : Int) (v1 v2 v3 : Value) (w : World) (h1 : SliceK memberD w v1 r.members) (h2 : SliceK inviteD w v2 r.invites) (h3 : SliceK banD w v3 r.bans) :
    Calls Tryz.prog 9 #[.agg #[.bool r.open_, v1, v2, v3], .int .i64 n] w fun e w' => e = .returned (.tuple #[.int .i64 (roV r n), .bool (roOk r n)]) ∧ Below w.heap.size w w' := by
  obtain ⟨A1, c1, rfl⟩ := h1.shape
  obtain ⟨A2, c2, rfl⟩ := h2.shape
  obtain ⟨A3, c3, rfl⟩ := h3.shape
  have H1 := hide h1
  have H2 := hide h2
  have H3 := hide h3
  clear h1 h2 h3
  have HS0 := hide (show St w (w.alloc (.cells #[.bool r.open_, .slice A1 r.members.length c1, .slice A2 r.invites.length c2, .slice A3 r.bans.length c3] 28)) [blk w.heap.size #[.bool r.open_, .slice A1 r.members.length c1, .slice A2 r.invites.length c2, .slice A3 r.bans.length c3] 28] by (repeat (first | (with_reducible exact St.start w) | (with_reducible apply St.alloc) | (with_reducible apply St.set0) | (with_reducible apply St.set1) | (with_reducible apply St.set2) | (with_reducible apply St.set3) | (with_reducible apply St.drew) | (with_reducible apply St.drewN))); all_goals (try (first | rfl | (simp; done))))
  (try clear x0 x1 x2 x3 xz)
  have x := HS0.out.at0
  obtain ⟨x0, x1, x2, x3⟩ := x.c4
  have xz := x.lt
  clear x
  by_cases hv : validRoomB r = true
  · have HV := hide hv
    by_cases hh : hasId r n = true
    · have HH := hide hh
      obtain ⟨k, m, hk, hlk, hx, hmn⟩ := idxP_found (show 0 ≤ idxP (idIs n) r.members by unfold hasId at hh; simpa using hh)
      have HR := hide (show roV r n = m.role by unfold roV roOk; rw [hv, hh]; exact roleAt_at hk hx)
      have HO := hide (show roOk r n = true by unfold roOk; rw [hv, hh]; rfl)
      obtain ⟨A1', c1', heq, hlc, hmx, hra⟩ := H1.out
      simp only [Value.slice.injEq] at heq
      obtain ⟨rfl, -, rfl⟩ := heq
      rcases hra with hnil | ⟨q, o2, rfl, hra⟩
      · rw [hnil] at hlk; simp at hlk
      have HRA := hide hra
      have HX := hide hx
      have hlt2 : (k : Int) < (r.members.length : Int) := by omega
      clear hv hh hx hmn hra
      go_enter Tryz.func9, Tryz.ntmps9
      go_wp2_with fail
      refine (validRoom_c r _ _ _ _ (H1.out.below HS0.out.below) (H2.out.below HS0.out.below) (H3.out.below HS0.out.below)).mono ?_
      rintro e w1 ⟨rfl, hb⟩
      rw [HV.out]
      have HS1 := hide (HS0.out.by hb)
      clear hb
      (try clear x0 x1 x2 x3 xz)
      have x := HS1.out.at0
      obtain ⟨x0, x1, x2, x3⟩ := x.c4
      have xz := x.lt
      clear x
      go_wp2_with fail
      refine (roomHas_c r _ _ n _ (Blk.rowAt (d := roomD) (x := r) HS1.out.at0 (room_K_mk (H1.out.below HS1.out.below) (H2.out.below HS1.out.below) (H3.out.below HS1.out.below)) rfl)).mono ?_
      rintro e w2 ⟨rfl, hb⟩
      rw [HH.out]
      have HS2 := hide (HS1.out.by hb)
      clear hb
      (try clear x0 x1 x2 x3 xz)
      have x := HS2.out.at0
      obtain ⟨x0, x1, x2, x3⟩ := x.c4
      have xz := x.lt
      clear x
      obtain ⟨hq, hc0, hc1, hc2, hc3⟩ := member_at HRA.out HS2.out.below HX.out
      go_wp2_with fail
      (refine wp_region_calm (by kernel_rfl) (by kernel_rfl) ?_; (repeat (first | go_big_quiet_skip | (go_big_quiet_want; go_big_quiet_op; (first | go_big_quiet_on | (apply Exists.intro; refine ⟨fun ic => ?_, ?_⟩; (focus (go_at_call 30; refine (roomAt_c r _ _ n _ ((Blk.rowAt (d := roomD) (x := r) HS2.out.at0 (room_K_mk (H1.out.below HS2.out.below) (H2.out.below HS2.out.below) (H3.out.below HS2.out.below)) rfl).below ic.below)).mono ?_; rintro e w3 ⟨rfl, hb⟩; rw [hk]; exact ⟨rfl, Calm.next _ hb⟩; done)); go_big_quiet_on))))); refine wpQuiet_nil ?_; intro wq hwq; obtain ⟨iq, hwe⟩ := hwq; subst hwe)
      go_wp2_with fail
      go_ret2
      exact ⟨by rw [HR.out, HO.out]; rfl, below_step HS2.out.below iq.below⟩
    · have HH := hide (show hasId r n = false by simpa using hh)
      have HO := hide (show roOk r n = false by unfold roOk; rw [HH.out, Bool.and_false])
      have HR := hide (show roV r n = 0 by unfold roV; rw [HO.out]; rfl)
      clear hv hh
      go_enter Tryz.func9, Tryz.ntmps9
      go_wp2_with fail
      refine (validRoom_c r _ _ _ _ (H1.out.below HS0.out.below) (H2.out.below HS0.out.below) (H3.out.below HS0.out.below)).mono ?_
      rintro e w1 ⟨rfl, hb⟩
      rw [HV.out]
      have HS1 := hide (HS0.out.by hb)
      clear hb
      (try clear x0 x1 x2 x3 xz)
      have x := HS1.out.at0
      obtain ⟨x0, x1, x2, x3⟩ := x.c4
      have xz := x.lt
      clear x
      go_wp2_with fail
      refine (roomHas_c r _ _ n _ (Blk.rowAt (d := roomD) (x := r) HS1.out.at0 (room_K_mk (H1.out.below HS1.out.below) (H2.out.below HS1.out.below) (H3.out.below HS1.out.below)) rfl)).mono ?_
      rintro e w2 ⟨rfl, hb⟩
      rw [HH.out]
      have HS2 := hide (HS1.out.by hb)
      clear hb
      (try clear x0 x1 x2 x3 xz)
      have x := HS2.out.at0
      obtain ⟨x0, x1, x2, x3⟩ := x.c4
      have xz := x.lt
      clear x
      go_wp2_with fail
      go_ret2
      exact ⟨by rw [HR.out, HO.out]; rfl, HS2.out.below⟩
  · have HV := hide (show validRoomB r = false by simpa using hv)
    have HO := hide (show roOk r n = false by unfold roOk; rw [HV.out, Bool.false_and])
    have HR := hide (show roV r n = 0 by unfold roV; rw [HO.out]; rfl)
    clear hv
    go_enter Tryz.func9, Tryz.ntmps9
    go_wp2_with fail
    refine (validRoom_c r _ _ _ _ (H1.out.below HS0.out.below) (H2.out.below HS0.out.below) (H3.out.below HS0.out.below)).mono ?_
    rintro e w1 ⟨rfl, hb⟩
    rw [HV.out]
    have HS1 := hide (HS0.out.by hb)
    clear hb
    (try clear x0 x1 x2 x3 xz)
    have x := HS1.out.at0
    obtain ⟨x0, x1, x2, x3⟩ := x.c4
    have xz := x.lt
    clear x
    go_wp2_with fail
    go_ret2
    exact ⟨by rw [HR.out, HO.out]; rfl, HS1.out.below⟩
set_option maxHeartbeats 4000000 in
theorem r8Members_c (xs ys : List Member) (v u : Value) (w : World) (h1 : SliceK memberD w v xs) (h2 : SliceK memberD w u ys) :
    Calls Tryz.prog 12 #[v, u] w fun e w' => e = .returned (.bool (decide (xs = ys))) ∧ Below w.heap.size w w' := by
  obtain ⟨A, c, rfl, hl, hm, hra⟩ := h1
  obtain ⟨B, d, rfl, hl2, hm2, hrb⟩ := h2
  have HA := hide hra
  have HB := hide hrb
  clear hra hrb
  by_cases hlen : xs.length = ys.length
  · have hle : (xs.length : Int) = (ys.length : Int) := by omega
    have HL := hide hlen
    have HLE := hide hle
    clear hlen hle
    obtain ⟨n, hn⟩ : ∃ n, n = ys.length := ⟨_, rfl⟩
    rw [← hn, show xs.length = n by rw [hn]; exact HL.out]
    have HN := hide (show xs.length = n ∧ ys.length = n from ⟨by rw [hn]; exact HL.out, hn.symm⟩)
    have hn63 : n ≤ 9223372036854775807 := by rw [hn]; omega
    clear hn
    go_enter Tryz.func12, Tryz.ntmps12
    go_wp2_with fail
    go_loopg [5] n (fun gg s5 wr => ∃ k : Nat, k ≤ n ∧ n - k ≤ gg ∧ s5 = .int .i64 k ∧ Hid (xs.take k = ys.take k) ∧ Hid (Below w.heap.size w wr))
    case atStart => exact ⟨0, Nat.zero_le _, by omega, rfl, hide (by simp), hide (Below.refl _ _)⟩
    case round =>
      obtain ⟨k, hk, hg, rfl, HT, HB0⟩ := hrel
      by_cases hlt : k < n
      · obtain ⟨x, hx⟩ : ∃ x, xs[k]? = some x := ⟨_, List.getElem?_eq_getElem (by have := HN.out.1; omega)⟩
        obtain ⟨y, hy⟩ : ∃ y, ys[k]? = some y := ⟨_, List.getElem?_eq_getElem (by have := HN.out.2; omega)⟩
        rcases HA.out with hnil | ⟨q, o2, rfl, hra⟩
        · rw [hnil] at hx; simp at hx
        rcases HB.out with hnil | ⟨q3, o3, rfl, hrb⟩
        · rw [hnil] at hy; simp at hy
        obtain ⟨hq, hc0, hc1, hc2, hc3⟩ := member_at hra HB0.out hx
        obtain ⟨hq3, hd0, hd1, hd2, hd3⟩ := member_at hrb HB0.out hy
        have hlt2 : (k : Int) < (n : Int) := by omega
        have HX := hide hx
        have HY := hide hy
        clear hx hy hra hrb
        by_cases hxy : x = y
        · subst hxy
          go_wp2_with fail
          go_quiet (fail)
          go_wp2_with fail
          go_roundg (n - (k + 1))
          case measure => omega
          case rel =>
            refine ⟨k + 1, by omega, by omega, by go_num, hide ?_, hide ?_⟩
            · obtain ⟨h1, e1⟩ := List.getElem?_eq_some_iff.1 HX.out
              obtain ⟨h2, e2⟩ := List.getElem?_eq_some_iff.1 HY.out
              rw [List.take_succ_eq_append_getElem h1, List.take_succ_eq_append_getElem h2, HT.out, e1, e2]
            · exact below_drewN HB0.out _
        · have HE := hide (show ¬ xs = ys from fun h => by
            have h1 := HX.out
            rw [h, HY.out] at h1
            exact hxy (Option.some.inj h1).symm)
          go_wp2_with fail
          go_quiet (fail)
          go_wp2_with fail
          go_ret
          exact ⟨by rw [decide_eq_false HE.out]; rfl, below_drewN HB0.out _⟩
      · obtain rfl : k = n := by omega
        have HE := hide (show xs = ys by
          have h := HT.out
          rw [List.take_of_length_le (by have := HN.out.1; omega), List.take_of_length_le (by have := HN.out.2; omega)] at h
          exact h)
        go_wp2_with fail
        go_ret
        exact ⟨by rw [decide_eq_true HE.out]; rfl, HB0.out⟩
  · have hne : ¬ (xs.length : Int) = (ys.length : Int) := by omega
    have HE := hide (show ¬ xs = ys from fun h => hlen (by rw [h]))
    clear hlen
    go_enter Tryz.func12, Tryz.ntmps12
    go_wp2_with fail
    go_ret
    exact ⟨by rw [decide_eq_false HE.out]; rfl, Below.refl _ _⟩
end Go.Proofs.YtglhepbcbildpaaGreat
