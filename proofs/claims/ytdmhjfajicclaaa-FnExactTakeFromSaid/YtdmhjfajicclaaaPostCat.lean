/- Two rows of parcels are laid end to end: slices.Grow, slices.Concat. -/
import Derived.Test.YtdmhjfajicclaaaPostFit
import Derived.Test.YtdmhjfajicclaaaInsPost
namespace Go.Proofs.Ytdmhjfajicclaaa
open Go Go.RowKit Go.BigFrame
set_option linter.unusedVariables false
set_option linter.unusedSimpArgs false

/-- An empty row with room, just made. -/
theorem St.emptyRoom {α : Type} {d : Dt α} {e : TypeId} {w0 w : World} {L : List Piece} {k c : Nat} {arr : Array Value} (h : St w0 w (blk k arr e :: L)) (hc : c ≤ 9223372036854775807) (ha : arr.size = c * d.sz) : St w0 w (own d e (.slice (some ⟨k, 0, none⟩) 0 c) [] [k] :: L) :=
  h.turn (A' := own d e (.slice (some ⟨k, 0, none⟩) 0 c) [] [k]) (Chg.refl _ _) (.inr ⟨k, c, arr, [], [], rfl, Nat.zero_le _, hc, h.head, by simpa using ha, by simp, .nil, rfl⟩) (by simp [own]) (fun b hb => .inl hb)
set_option maxHeartbeats 4000000 in
set_option maxRecDepth 100000 in
theorem growParcel_c (n : Nat) (hn : n ≤ 100000) (w0 W : World) (L : List Piece) (hS : St w0 W L) :
    Calls Try.prog 68 #[.slice none 0 0, .int .i64 n] W (RetOwn parcelD 68 w0 L []) := by
  have HS := hide hS
  clear hS
  by_cases hz : n = 0
  · subst hz
    go_enter Try.func68, Try.ntmps68
    go_wp2_with fail
    go_ret
    exact ⟨none, 0, [], rfl, St.nil HS.out⟩
  · have hp : ¬ (n : Int) < 0 := by omega
    have hp2 : (0 : Int) < (n : Int) := by omega
    have hw : IntKind.i64.wrap (n : Int) = n := IntWalk.i64_in _ (by omega)
    obtain ⟨i0, hi0, hz0, hzs, hzb⟩ := info_parts infoParcel
    obtain ⟨G, hG⟩ : ∃ G, G = grownCap W n 0 68 := ⟨_, rfl⟩
    obtain ⟨ROW, hROW⟩ : ∃ ROW : Array Value, ROW = ([] : List Value).toArray ++ Builtin.zeroCells (.agg #[.int .i64 0, .int .i64 0] : Value).cells n ++ Builtin.zeroCells (.agg #[.int .i64 0, .int .i64 0] : Value).cells (G - n) := ⟨_, rfl⟩
    have hrz : ∀ ty, (Builtin.append_ #[35, 3] ty #[.slice none 0 0, .int .i64 (n : Int)]).run Try.prog W =
        .ok (.slice (some ⟨W.heap.size, 0, none⟩) n G) (W.drew.alloc (.cells ROW 68)) := fun ty => by
      have h := Lib.run_append_grow_zeros W 35 3 ty 68 i0 _ .i64 .i64 Try.underlying35 Try.underlying3 hi0 hz0 none 0 0 [] (by rfl) n (by omega) (by omega) (by omega) (by omega) (by rw [hzb]; omega) (by rw [hzb]; exact growslice_fits (by omega) (by omega))
      rw [Nat.zero_add, ← hG, ← hROW] at h
      exact h
    have hGn : n ≤ G := by rw [hG]; exact grownCap_ge W _ _ _
    have hG63 : G ≤ 9223372036854775807 := by
      have := grownCap_le_maxLen W n 0 68 (by unfold maxLen; omega)
      rw [← hG] at this
      unfold maxLen at this
      omega
    have hRl : ROW.size = G * 2 := by
      rw [hROW]
      simp only [Array.size_append, List.size_toArray, List.length_nil, size_zeroCells]
      have hz : (.agg #[.int .i64 0, .int .i64 0] : Value).cells.size = 2 := rfl
      rw [hz]; omega
    clear hG hROW
    have hGp : ¬ G = 0 := by omega
    go_enter Try.func68, Try.ntmps68
    go_wp2_with (at_builtin; refine Lib.wpList_append_run _ rfl _ _ _ _ rfl _ _ rfl rfl _ _ (hrz _) ?_)
    go_ret
    exact ⟨_, G, _, rfl, St.emptyRoom (d := parcelD) (by (repeat (first | (with_reducible exact HS.out) | (with_reducible apply St.alloc) | (with_reducible apply St.set0) | (with_reducible apply St.set1) | (with_reducible apply St.set2) | (with_reducible apply St.set3) | (with_reducible apply St.drew) | (with_reducible apply St.drewN))); all_goals (try (first | rfl | (simp; done)))) hG63 hRl⟩
set_option maxHeartbeats 4000000 in
set_option maxRecDepth 100000 in
theorem concat_c (xs ys : List Parcel) (A B : Option Addr) (c c2 b : Nat) (F : List Nat) (w0 W : World) (L : List Piece)
    (hS : St w0 W (blk b #[.slice A xs.length c, .slice B ys.length c2] 35 :: own parcelD 68 (.slice B ys.length c2) ys F :: L)) (h1 : SliceK parcelD w0 (.slice A xs.length c) xs) (hx : xs.length ≤ 1000) (hy : ys.length ≤ 1000) :
    Calls Try.prog 49 #[.slice (some ⟨b, 0, none⟩) 2 2] W (RetOwn parcelD 68 w0 (blk b #[.slice A xs.length c, .slice B ys.length c2] 35 :: own parcelD 68 (.slice B ys.length c2) ys F :: L) (xs ++ ys)) := by
  have HS := hide hS
  have H1 := hide h1
  obtain ⟨x0, x1⟩ := hS.at0.c2
  have xf := hS.at0.frozen
  have xz := hS.at0.lt
  have hw1 : IntKind.i64.wrap (xs.length : Int) = xs.length := IntWalk.i64_in _ (by omega)
  have hw2 : IntKind.i64.wrap ((xs.length : Int) + (ys.length : Int)) = (xs.length : Int) + ys.length := IntWalk.i64_in _ (by omega)
  have hp1 : ¬ (xs.length : Int) < 0 := by omega
  have hp2 : ¬ (xs.length : Int) + (ys.length : Int) < 0 := by omega
  clear hS h1
  go_enter Try.func49, Try.ntmps49
  go_wp2_with fail
  go_loopg [3, 11] 2 (fun gg s3 s11 wr => wr = W ∧ ((s11 = .int .i64 0 ∧ s3 = .int .i64 0 ∧ 2 ≤ gg) ∨ (s11 = .int .i64 1 ∧ s3 = .int .i64 xs.length ∧ 1 ≤ gg) ∨ (s11 = .int .i64 2 ∧ s3 = .int .i64 ((xs.length : Int) + ys.length))))
  case atStart => exact ⟨rfl, .inl ⟨rfl, rfl, by omega⟩⟩
  case round =>
    obtain ⟨rfl, ⟨rfl, rfl, hg⟩ | ⟨rfl, rfl, hg⟩ | ⟨rfl, rfl⟩⟩ := hrel
    · go_wp2_with fail
      go_roundg 1
      case measure => omega
      case rel => exact ⟨rfl, .inr (.inl ⟨by go_num, by go_num, by omega⟩)⟩
    · go_wp2_with fail
      go_roundg 0
      case measure => omega
      case rel => exact ⟨rfl, .inr (.inr ⟨by go_num, by go_num⟩)⟩
    · go_wp2_with (
        go_at_call 68
        refine Calls.mono (show Calls Try.prog _ #[.slice none 0 0, .int .i64 ((xs.length : Int) + ys.length)] _ _ from by rw [← Int.natCast_add]; exact growParcel_c (xs.length + ys.length) (by omega) w0 _ _ HS.out) ?_
        rintro e w1 ⟨A9, c9, F9, rfl, hS1⟩
        have HS1 := hide hS1
        clear hS1 x0 x1 xf xz)
      go_loopg [6, 27] 2 (fun gg s6 s27 wr => ∃ A9 c9 F9, (s27 = .int .i64 0 ∧ s6 = .slice A9 0 c9 ∧ 2 ≤ gg ∧ Hid (St w0 wr (own parcelD 68 (.slice A9 0 c9) [] F9 :: blk b #[.slice A xs.length c, .slice B ys.length c2] 35 :: own parcelD 68 (.slice B ys.length c2) ys F :: L))) ∨ (s27 = .int .i64 1 ∧ s6 = .slice A9 xs.length c9 ∧ 1 ≤ gg ∧ Hid (St w0 wr (own parcelD 68 (.slice A9 xs.length c9) xs F9 :: blk b #[.slice A xs.length c, .slice B ys.length c2] 35 :: own parcelD 68 (.slice B ys.length c2) ys F :: L))) ∨ (s27 = .int .i64 2 ∧ s6 = .slice A9 (xs ++ ys).length c9 ∧ Hid (St w0 wr (own parcelD 68 (.slice A9 (xs ++ ys).length c9) (xs ++ ys) F9 :: blk b #[.slice A xs.length c, .slice B ys.length c2] 35 :: own parcelD 68 (.slice B ys.length c2) ys F :: L))))
      case atStart => exact ⟨A9, c9, F9, .inl ⟨rfl, rfl, by omega, HS1⟩⟩
      case round =>
        clear HS HS1
        obtain ⟨A9, c9, F9, ⟨rfl, rfl, hg, HS⟩ | ⟨rfl, rfl, hg, HS⟩ | ⟨rfl, rfl, HS⟩⟩ := hrel
        · obtain ⟨x0, x1⟩ := (St.at1 HS.out).c2
          have xf := (St.at1 HS.out).frozen
          have xz := (St.at1 HS.out).lt
          go_wp2_with (at_builtin
                       refine wpList_app_st (d := parcelD) rfl (w0 := w0) (L := blk b #[.slice A xs.length c, .slice B ys.length c2] 35 :: own parcelD 68 (.slice B ys.length c2) ys F :: L) _ rfl _ _ _ rfl (.agg #[.int .i64 0, .int .i64 0]) 16 Try.underlying35 infoParcel rfl (by omega) (by omega) (.slice A9 0 c9) [] F9 rfl HS.out _ _ _ xs rfl rfl (H1.out.below HS.out.below) (by first | omega | (simp only [List.length_nil]; omega)) ?_
                       intro A2 c3 w2 F2 hch hS
                       have HS2 := hide hS
                       clear hch hS)
          go_roundg 1
          case measure => omega
          case rel => exact ⟨A2, c3, F2, .inr (.inl ⟨by go_num, rfl, by omega, HS2⟩)⟩
        · obtain ⟨x0, x1⟩ := (St.at1 HS.out).c2
          have xf := (St.at1 HS.out).frozen
          have xz := (St.at1 HS.out).lt
          go_wp2_with (at_builtin
                       refine wpList_app_st (d := parcelD) rfl (w0 := w0) (L := blk b #[.slice A xs.length c, .slice B ys.length c2] 35 :: own parcelD 68 (.slice B ys.length c2) ys F :: L) _ rfl _ _ _ rfl (.agg #[.int .i64 0, .int .i64 0]) 16 Try.underlying35 infoParcel rfl (by omega) (by omega) (.slice A9 xs.length c9) xs F9 rfl HS.out _ _ _ ys rfl rfl ((St.pull2 HS.out).toK) (by first | omega | (simp only [List.length_nil]; omega)) ?_
                       intro A2 c3 w2 F2 hch hS
                       have HS2 := hide hS
                       clear hch hS)
          go_roundg 0
          case measure => omega
          case rel => exact ⟨A2, c3, F2, .inr (.inr ⟨by go_num, by rw [List.length_append], HS2⟩)⟩
        · go_wp2_with fail
          go_ret
          exact ⟨A9, c9, F9, rfl, HS.out⟩
end Go.Proofs.Ytdmhjfajicclaaa
