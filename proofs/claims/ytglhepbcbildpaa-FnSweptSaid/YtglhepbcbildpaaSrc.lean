/- The reference's drawing source: what it draws lies in its bounds. -/
import Derived.Test.YtglhepbcbildpaaRGround
import Derived.Deep.RegionHeld3
import Derived.Laws.Bits64b
namespace Go.Proofs.Ytglhepbcbildpaa
open Go Go.RowKit Go.BigFrame
set_option linter.unusedVariables false
set_option linter.unusedSimpArgs false
set_option maxRecDepth 100000

def srcD : Dt UInt8 := Dt.flat 1 (fun x : UInt8 => [.int .u8 (x.toNat : Int)]) (fun _ => rfl) (fun x u hu => by simp at hu; subst hu; rfl)
theorem src_at {w W : World} {b o j : Nat} {xs : List UInt8} {x : UInt8} (h : RowAt srcD w b o xs) (hb : Below w.heap.size w W) (hj : xs[j]? = some x) : b < W.heap.size ∧ W.cell? ⟨b, o + j, none⟩ = some (.int .u8 (x.toNat : Int)) := by
  obtain ⟨cs, hk, hc⟩ := (h.below hb) j x hj
  obtain rfl : cs = [.int .u8 (x.toNat : Int)] := hk
  have hc : ∀ i u, ([.int .u8 (x.toNat : Int)] : List Value)[i]? = some u → W.cell? ⟨b, o + j * 1 + i, none⟩ = some u := hc
  exact ⟨World.block_lt_of_cell? W _ (hc 0 _ rfl), by have := hc 0 _ rfl; rwa [Nat.mul_one, Nat.add_zero] at this⟩
/-- A source in a block, of which at most so many bytes have been read. -/
def srcP (e : TypeId) (A : Option Addr) (n c b N : Nat) : Piece where
  F := [b]
  R := fun w => ∃ (a : Nat) (seed : Int), a ≤ N ∧ w.heap[b]? = some (.cells #[.slice A n c, .int .i64 a, .int .u64 seed] e (0, 0))
  move := fun h hr => by
    obtain ⟨a, s, h1, h2⟩ := hr
    exact ⟨a, s, h1, (h _ List.mem_cons_self).trans h2⟩
  lt := fun hr b hb => by
    obtain ⟨a, s, h1, h2⟩ := hr
    rw [List.mem_singleton.1 hb]; exact block_lt h2
theorem St.srcOut {e : TypeId} {A : Option Addr} {n c b N : Nat} {w0 w : World} {L : List Piece} (h : St w0 w (srcP e A n c b N :: L)) : ∃ (a : Nat) (seed : Int), a ≤ N ∧ St w0 w (blk b #[.slice A n c, .int .i64 a, .int .u64 seed] e :: L) := by
  obtain ⟨a, s, h1, h2⟩ := h.head
  refine ⟨a, s, h1, h.below, fun p hp => ?_, h.nodup, h.ge⟩
  rcases List.mem_cons.1 hp with rfl | hp
  · exact h2
  · exact h.drop.all p hp
theorem St.srcIn {e : TypeId} {A : Option Addr} {n c b N a : Nat} {seed : Int} {w0 w : World} {L : List Piece} (h : St w0 w (blk b #[.slice A n c, .int .i64 a, .int .u64 seed] e :: L)) (ha : a ≤ N) : St w0 w (srcP e A n c b N :: L) := by
  refine ⟨h.below, fun p hp => ?_, h.nodup, h.ge⟩
  rcases List.mem_cons.1 hp with rfl | hp
  · exact ⟨a, seed, ha, h.head⟩
  · exact h.drop.all p hp
theorem St.srcMore {e : TypeId} {A : Option Addr} {n c b N M : Nat} {w0 w : World} {L : List Piece} (h : St w0 w (srcP e A n c b N :: L)) (hM : N ≤ M) : St w0 w (srcP e A n c b M :: L) := by
  obtain ⟨a, s, h1, h2⟩ := h.srcOut
  exact h2.srcIn (by omega)
theorem u64_wrap_in (n : Int) : 0 ≤ IntKind.u64.wrap n ∧ IntKind.u64.wrap n < 18446744073709551616 := by
  have h : IntKind.u64.wrap n = n % 18446744073709551616 := by
    unfold IntKind.wrap
    simp [IntKind.signed, IntKind.bits]
  rw [h]; omega
theorem low_byte (n : Int) (h0 : 0 ≤ n) (h1 : n < 18446744073709551616) : 0 ≤ wrap64 (bits .and .u64 n 255) ∧ wrap64 (bits .and .u64 n 255) ≤ 255 := by
  obtain ⟨k, rfl⟩ : ∃ k : Nat, n = (k : Int) := ⟨n.toNat, by omega⟩
  have h := bits_and_u64_nat k 255 (by omega) (by omega)
  have h2 : k &&& 255 ≤ 255 := Nat.and_le_right
  rw [show ((255 : Nat) : Int) = 255 from rfl] at h
  rw [h]
  unfold wrap64
  omega
set_option maxHeartbeats 4000000 in
theorem next_c (code : List UInt8) (A : Option Addr) (c b N : Nat) (w0 W : World) (L : List Piece) (hS : St w0 W (srcP 67 A code.length c b N :: L)) (hc : SliceK srcD w0 (.slice A code.length c) code) (hN : N ≤ 1000000000) :
    Calls Try.prog 51 #[.pointer (some ⟨b, 0, none⟩)] W fun e W' => ∃ x : Int, e = .returned (.int .i64 x) ∧ 0 ≤ x ∧ x ≤ 255 ∧ St w0 W' (srcP 67 A code.length c b (N + 1) :: L) := by
  obtain ⟨a, seed, ha, hS1⟩ := hS.srcOut
  have HS := hide hS1
  obtain ⟨A', c', heq, hlc, hmx, hra⟩ := hc
  simp only [Value.slice.injEq] at heq
  obtain ⟨rfl, -, rfl⟩ := heq
  have x0 := hS1.at0.cell 0
  have x1 := hS1.at0.cell 1
  have x2 := hS1.at0.cell 2
  simp only [List.getElem?_toArray, List.getElem?_cons_succ, List.getElem?_cons_zero] at x0 x1 x2
  have xf := hS1.at0.frozen
  have xz := hS1.at0.lt
  clear hS hS1
  have key : ∀ (A2 : Option Addr) (W' : World) (s : Int), St w0 W' (blk b #[.slice A2 code.length c, .int .i64 ((a : Int) + 1), .int .u64 s] 67 :: L) → St w0 W' (srcP 67 A2 code.length c b (N + 1) :: L) := fun A2 W' s h => St.srcIn (a := a + 1) (seed := s) h (by omega)
  by_cases hlt : a < code.length
  · obtain ⟨y, hy⟩ : ∃ y, code[a]? = some y := ⟨_, List.getElem?_eq_getElem hlt⟩
    rcases hra with hnil | ⟨q, o2, rfl, hra⟩
    · rw [hnil] at hlt; simp at hlt
    obtain ⟨hq, hc0⟩ := src_at hra HS.out.below hy
    have hlt2 : (a : Int) < (code.length : Int) := by omega
    have hy2 : (y.toNat : Int) ≤ 255 := by have := y.toNat_lt; omega
    clear hra hy
    go_enter Try.func51, Try.ntmps51
    go_wp2_with fail
    go_quiet (fail)
    go_wp2_with fail
    go_quiet (fail)
    go_wp2_with fail
    go_quiet (fail)
    go_wp2_with fail
    go_ret
    exact ⟨_, rfl, by omega, hy2, key _ _ _ (by (repeat (first | (with_reducible exact HS.out) | (with_reducible apply St.alloc) | (with_reducible apply St.set0) | (with_reducible apply St.set1) | (with_reducible apply St.set2) | (with_reducible apply St.set3) | (with_reducible apply St.drew) | (with_reducible apply St.drewN))); all_goals (try (first | rfl | (simp; done))))⟩
  · have hlt2 : ¬ (a : Int) < (code.length : Int) := by omega
    have hlt3 : ¬ (a : Int) + 1 ≤ (code.length : Int) := by omega
    clear hra
    go_enter Try.func51, Try.ntmps51
    go_wp2_with fail
    go_quiet (fail)
    go_wp2_with fail
    go_quiet (fail)
    go_wp2_with fail
    have hu := u64_wrap_in (IntKind.u64.wrap (IntKind.u64.wrap (seed * 6364136223846793005)) + 1442695040888963407)
    obtain ⟨hl1, hl2⟩ := low_byte (IntKind.u64.wrap (IntKind.u64.wrap (IntKind.u64.wrap (seed * 6364136223846793005)) + 1442695040888963407) / 1099511627776) (by omega) (by omega)
    go_ret
    exact ⟨_, rfl, hl1, hl2, key _ _ _ (by (repeat (first | (with_reducible exact HS.out) | (with_reducible apply St.alloc) | (with_reducible apply St.set0) | (with_reducible apply St.set1) | (with_reducible apply St.set2) | (with_reducible apply St.set3) | (with_reducible apply St.drew) | (with_reducible apply St.drewN))); all_goals (try (first | rfl | (simp; done))))⟩
set_option maxHeartbeats 4000000 in
theorem pick_c (code : List UInt8) (A : Option Addr) (c b N : Nat) (n : Int) (w0 W : World) (L : List Piece) (hS : St w0 W (srcP 67 A code.length c b N :: L)) (hc : SliceK srcD w0 (.slice A code.length c) code) (hN : N ≤ 100000000) :
    Calls Try.prog 37 #[.pointer (some ⟨b, 0, none⟩), .int .i64 n] W fun e W' => ∃ x : Int, e = .returned (.int .i64 x) ∧ 0 ≤ x ∧ (1 ≤ n → x < n) ∧ St w0 W' (srcP 67 A code.length c b (N + 2) :: L) := by
  have HS := hide hS
  have HC := hide hc
  clear hS hc
  by_cases h1 : n ≤ 1
  · go_enter Try.func37, Try.ntmps37
    go_wp2_with fail
    go_ret
    exact ⟨0, rfl, by omega, by omega, HS.out.srcMore (by omega)⟩
  · go_enter Try.func37, Try.ntmps37
    go_wp2_with fail
    refine (next_c code A c b N w0 _ L HS.out HC.out (by omega)).mono ?_
    rintro e w1 ⟨x, rfl, hx0, hx1, hS1⟩
    have HS1 := hide hS1
    have hn0 : ¬ n = 0 := by omega
    have hn1 : ¬ n = -1 := by omega
    clear hS1
    by_cases h2 : n ≤ 200
    · have h3 : ¬ 200 < n := by omega
      go_wp2_with fail
      go_ret
      exact ⟨_, rfl, Int.emod_nonneg _ (by omega), fun _ => Int.emod_lt_of_pos _ (by omega), HS1.out.srcMore (by omega)⟩
    · have h3 : 200 < n := by omega
      go_wp2_with fail
      refine (next_c code A c b (N + 1) w0 _ L HS1.out HC.out (by omega)).mono ?_
      rintro e w2 ⟨y, rfl, hy0, hy1, hS2⟩
      have HS2 := hide hS2
      clear hS2
      go_wp2_with fail
      go_ret
      exact ⟨_, rfl, Int.emod_nonneg _ (by omega), fun _ => Int.emod_lt_of_pos _ (by omega), HS2.out⟩
set_option maxHeartbeats 4000000 in
theorem one_c (code : List UInt8) (A : Option Addr) (c b N : Nat) (n : Int) (w0 W : World) (L : List Piece) (hS : St w0 W (srcP 67 A code.length c b N :: L)) (hc : SliceK srcD w0 (.slice A code.length c) code) (hN : N ≤ 100000000) :
    Calls Try.prog 36 #[.pointer (some ⟨b, 0, none⟩), .int .i64 n] W fun e W' => ∃ x : Bool, e = .returned (.bool x) ∧ St w0 W' (srcP 67 A code.length c b (N + 2) :: L) := by
  have HS := hide hS
  have HC := hide hc
  clear hS hc
  go_enter Try.func36, Try.ntmps36
  go_wp2_with fail
  refine (pick_c code A c b N n w0 _ L HS.out HC.out hN).mono ?_
  rintro e w1 ⟨x, rfl, hx0, hx1, hS1⟩
  have HS1 := hide hS1
  clear hS1
  go_wp2_with fail
  go_ret
  exact ⟨_, rfl, HS1.out⟩
theorem l00From_c (A : Option Addr) (m c : Nat) (w0 W : World) (L : List Piece) (hS : St w0 W L) : Calls Try.prog 14 #[.slice A m c] W fun e W' => e = .returned (.pointer (some ⟨W.heap.size, 0, none⟩)) ∧ St w0 W' (srcP 67 A m c W.heap.size 0 :: L) := by
  have HS := hide hS
  clear hS
  have key : ∀ W', St w0 W' (blk W.heap.size #[.slice A m c, .int .i64 0, .int .u64 0] 67 :: L) → St w0 W' (srcP 67 A m c W.heap.size 0 :: L) := fun W' h => St.srcIn (a := 0) (seed := 0) h (Nat.le_refl _)
  go_enter Try.func14, Try.ntmps14
  go_wp2_with fail
  go_ret
  exact ⟨rfl, key _ (by (repeat (first | (with_reducible exact HS.out) | (with_reducible apply St.alloc) | (with_reducible apply St.set0) | (with_reducible apply St.set1) | (with_reducible apply St.set2) | (with_reducible apply St.set3) | (with_reducible apply St.drew) | (with_reducible apply St.drewN))); all_goals (try (first | rfl | (simp; done))))⟩
end Go.Proofs.Ytglhepbcbildpaa
