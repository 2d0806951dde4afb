/- slices.DeleteFunc at rows of flat structs. -/
import Derived.Test.YtglhepbcbildpaaRGround
import Derived.Test.YtglhepbcbildpaaRoomFind
namespace Go.Proofs.Ytglhepbcbildpaa
open Go Go.RowKit Go.BigFrame
set_option linter.unusedVariables false
set_option linter.unusedSimpArgs false
theorem zeroInvite (w : World) : (zeroValue 39).run Try.prog w = .ok (.agg #[(.int .i64 0), (.int .i64 0), (.int .i64 0)]) w := by kernel_rfl
set_option maxHeartbeats 8000000 in
set_option maxRecDepth 100000 in
theorem delInvite_c (g : Nat) (caps : Array Value) (p : Invite → Bool) (xs : List Invite) (A : Option Addr) (c : Nat) (F : List Nat) (w0 W : World) (L : List Piece)
    (hS : St w0 W (own inviteD 39 (.slice A xs.length c) xs F :: L)) (hlen : xs.length ≤ 1048576) (eg : ∀ args w, (callFunc g args).run Try.prog w = .ok (.enter g args) w)
    (hc : ∀ (m : Invite) (W' : World) (B : Piece), St w0 W' (B :: L) → Calls Try.prog g (#[.agg #[.int .i64 m.id, .int .i64 m.by_, .int .i64 m.until_]] ++ caps) W' fun e W'' => e = .returned (.bool (p m)) ∧ Below W'.heap.size W' W'') :
    Calls Try.prog 18 #[.slice A xs.length c, .func (.func g) #[] caps] W (RetOwn inviteD 39 w0 L (dropP p xs)) := by
  have HS0 := hide hS
  have HC := hide hc
  clear hS hc
  have egI := eg
  by_cases hn : 0 ≤ idxP p xs
  · obtain ⟨k, x, hk, hlk, hx, hpx⟩ := idxP_found hn
    have hA : ∃ b, A = some ⟨b, 0, none⟩ := by
      rcases flat_M (show SliceM (Dt.flat _ _ _ _) _ _ _ _ _ from HS0.out.head) with ⟨h0, _⟩ | ⟨b, cap, cur, hv, _⟩
      · simp only [Value.slice.injEq] at h0; omega
      · simp only [Value.slice.injEq] at hv; exact ⟨b, hv.1⟩
    obtain ⟨b, rfl⟩ := hA
    have HK := hide (DelAt.start hk hx hpx)
    have hlc : xs.length ≤ c := by
      obtain ⟨A2, c2, hv, h2, h3, _⟩ := HS0.out.toK
      simp only [Value.slice.injEq] at hv; omega
    have hcm : c ≤ 9223372036854775807 := by
      obtain ⟨A2, c2, hv, h2, h3, _⟩ := HS0.out.toK
      simp only [Value.slice.injEq] at hv; omega
    have hk1 : ¬ (k : Int) = -1 := by omega
    clear hn hx hpx
    go_enter Try.func18, Try.ntmps18
    go_wp2_with (first
      | (go_at_call 39
         refine (indexInvite_c g caps p xs _ _ HS0.out.toK eg (fun m W hb => HC.out m W _ (HS0.out.by hb))).mono ?_
         rintro e w1 ⟨rfl, hb⟩
         rw [hk]
         have HS1 := hide (HS0.out.by hb)
         clear hb))
    clear hk
    go_loopg [5, 6] xs.length (fun gg s5 s6 wr => ∃ (i j : Nat) (cur : List Invite) (F1 : List Nat), i < j ∧ j ≤ xs.length ∧ cur.length = xs.length ∧ xs.length - j ≤ gg ∧ s5 = .int .i64 i ∧ s6 = .int .i64 j ∧ Hid (DelAt p xs cur i j) ∧ Hid (St w0 wr (own inviteD 39 (.slice (some ⟨b, 0, none⟩) cur.length c) cur F1 :: L)))
    case atStart => exact ⟨k, k + 1, xs, F, by omega, by omega, rfl, by omega, rfl, by go_num, HK, HS1⟩
    case round =>
      obtain ⟨i, j, cur, F1, hij, hjn, hcl, hg, rfl, rfl, HD, HS⟩ := hrel
      by_cases hlt : j < xs.length
      · obtain ⟨x, hx⟩ : ∃ x, xs[j]? = some x := ⟨_, List.getElem?_eq_getElem hlt⟩
        obtain ⟨y, hy⟩ : ∃ y, cur[i]? = some y := ⟨_, List.getElem?_eq_getElem (by omega)⟩
        have HG := hide hy
        have HX := hide hx
        obtain ⟨hcw, hfw, hzw⟩ := St.flatCell (d := inviteD) rfl HS.out (HD.out.get hx)
        obtain ⟨c0, c1, c2⟩ : wr.cell? ⟨b, j * 3, none⟩ = some (.int .i64 x.id) ∧ wr.cell? ⟨b, j * 3 + 1, none⟩ = some (.int .i64 x.by_) ∧ wr.cell? ⟨b, j * 3 + 2, none⟩ = some (.int .i64 x.until_) := ⟨hcw 0 _ rfl, hcw 1 _ rfl, hcw 2 _ rfl⟩
        have hlt2 : (j : Int) < (xs.length : Int) := by omega
        have hlt3 : (i : Int) < (xs.length : Int) := by omega
        have hil : i < cur.length := by omega
        clear hx hy hcw hcl
        by_cases hpx : p x = true
        · have HPX := hide hpx
          clear hpx
          go_wp2_with (first
              | (go_at_fn g
                 refine (HC.out x _ (own inviteD 39 (.slice (some ⟨b, 0, none⟩) cur.length c) cur F1) (St.drop (A := blk wr.heap.size #[.int .i64 x.id, .int .i64 x.by_, .int .i64 x.until_] 39) (by (repeat (first | (with_reducible exact HS.out) | (with_reducible apply St.alloc) | (with_reducible apply St.set0) | (with_reducible apply St.set1) | (with_reducible apply St.set2) | (with_reducible apply St.set3) | (with_reducible apply St.drew) | (with_reducible apply St.drewN))); all_goals (try (first | rfl | (simp; done)))))).mono ?_
                 rintro e w2 ⟨rfl, hb⟩
                 rw [HPX.out]
                 have HS2 := hide (St.by (show St w0 _ (blk wr.heap.size #[.int .i64 x.id, .int .i64 x.by_, .int .i64 x.until_] 39 :: own inviteD 39 (.slice (some ⟨b, 0, none⟩) cur.length c) cur F1 :: L) from by (repeat (first | (with_reducible exact HS.out) | (with_reducible apply St.alloc) | (with_reducible apply St.set0) | (with_reducible apply St.set1) | (with_reducible apply St.set2) | (with_reducible apply St.set3) | (with_reducible apply St.drew) | (with_reducible apply St.drewN))); all_goals (try (first | rfl | (simp; done)))) hb)
                 have bc := HS2.out.at0
                 obtain ⟨b0, b1, b2⟩ := bc.c3
                 have bz := bc.lt
                 obtain ⟨hcw, hfw, hzw⟩ := St.flatCell (d := inviteD) rfl HS2.out.drop HG.out
                 obtain ⟨d0, d1, d2⟩ : w2.cell? ⟨b, i * 3, none⟩ = some (.int .i64 y.id) ∧ w2.cell? ⟨b, i * 3 + 1, none⟩ = some (.int .i64 y.by_) ∧ w2.cell? ⟨b, i * 3 + 2, none⟩ = some (.int .i64 y.until_) := ⟨hcw 0 _ rfl, hcw 1 _ rfl, hcw 2 _ rfl⟩
                 clear hb bc hcw))
          go_roundg (xs.length - (j + 1))
          case measure => omega
          case rel => exact ⟨i, j + 1, cur, F1, by omega, by omega, HD.out.len, by omega, rfl, by go_num, hide (HD.out.skip HX.out HPX.out), hide HS2.out.drop⟩
        · have HPX := hide (show p x = false by simpa using hpx)
          clear hpx
          go_wp2_with (first
              | (go_at_fn g
                 refine (HC.out x _ (own inviteD 39 (.slice (some ⟨b, 0, none⟩) cur.length c) cur F1) (St.drop (A := blk wr.heap.size #[.int .i64 x.id, .int .i64 x.by_, .int .i64 x.until_] 39) (by (repeat (first | (with_reducible exact HS.out) | (with_reducible apply St.alloc) | (with_reducible apply St.set0) | (with_reducible apply St.set1) | (with_reducible apply St.set2) | (with_reducible apply St.set3) | (with_reducible apply St.drew) | (with_reducible apply St.drewN))); all_goals (try (first | rfl | (simp; done)))))).mono ?_
                 rintro e w2 ⟨rfl, hb⟩
                 rw [HPX.out]
                 have HS2 := hide (St.by (show St w0 _ (blk wr.heap.size #[.int .i64 x.id, .int .i64 x.by_, .int .i64 x.until_] 39 :: own inviteD 39 (.slice (some ⟨b, 0, none⟩) cur.length c) cur F1 :: L) from by (repeat (first | (with_reducible exact HS.out) | (with_reducible apply St.alloc) | (with_reducible apply St.set0) | (with_reducible apply St.set1) | (with_reducible apply St.set2) | (with_reducible apply St.set3) | (with_reducible apply St.drew) | (with_reducible apply St.drewN))); all_goals (try (first | rfl | (simp; done)))) hb)
                 have bc := HS2.out.at0
                 obtain ⟨b0, b1, b2⟩ := bc.c3
                 have bz := bc.lt
                 obtain ⟨hcw, hfw, hzw⟩ := St.flatCell (d := inviteD) rfl HS2.out.drop HG.out
                 obtain ⟨d0, d1, d2⟩ : w2.cell? ⟨b, i * 3, none⟩ = some (.int .i64 y.id) ∧ w2.cell? ⟨b, i * 3 + 1, none⟩ = some (.int .i64 y.by_) ∧ w2.cell? ⟨b, i * 3 + 2, none⟩ = some (.int .i64 y.until_) := ⟨hcw 0 _ rfl, hcw 1 _ rfl, hcw 2 _ rfl⟩
                 clear hb bc hcw))
          go_roundg (xs.length - (j + 1))
          case measure => omega
          case rel =>
            have hS3 := St.putFlat (d := inviteD) rfl HS2.out.drop hil x
            refine ⟨i + 1, j + 1, cur.set i x, F1, by omega, by omega, by have := HD.out.len; simpa using this, by omega, by go_num, by go_num, hide (HD.out.keep HX.out HPX.out), hide ?_⟩
            rw [List.length_set]
            exact hS3
      · obtain rfl : j = xs.length := by omega
        have hDone := hide HD.out.done
        have hin : i < xs.length := by omega
        obtain ⟨vs, hcl2⟩ := run_clear_flat (P := Try.prog) (n := 3) wr 25 39 _ Try.underlying25 zeroInvite rfl (by simp [Value.cells, Value.oneCell']) b (i * 3) (xs.length - i) (c - i) (by omega) (fun q hq => St.flatSome (d := inviteD) rfl HS.out _ (by
          have h1 : (xs.length - i) * 3 + i * 3 = xs.length * 3 := by rw [← Nat.add_mul]; congr 1; omega
          rw [hcl]; omega)) (fun q => (St.flatCell (d := inviteD) (k := i) rfl HS.out (List.getElem?_eq_getElem (by omega))).2.1 q)
        clear hcl
        go_wp2_with fail
        go_ret
        obtain ⟨hd1, hd2⟩ := hDone.out
        have hS9 := St.cutFlat (d := inviteD) rfl HS.out (i := i) (by have := HD.out.len; omega) vs
        rw [hd1] at hS9
        refine ⟨some ⟨b, 0, none⟩, c, F1, by rw [hd2]; rfl, ?_⟩
        rw [hd2]; exact hS9
  · have HV := hide (dropP_none (p := p) (xs := xs) (by omega))
    have hkn : idxP p xs = -1 := idxP_neg (by omega)
    clear hn
    go_enter Try.func18, Try.ntmps18
    go_wp2_with (first
      | (go_at_call 39
         refine (indexInvite_c g caps p xs _ _ HS0.out.toK eg (fun m W hb => HC.out m W _ (HS0.out.by hb))).mono ?_
         rintro e w1 ⟨rfl, hb⟩
         rw [hkn]
         have HS1 := hide (HS0.out.by hb)
         clear hb))
    go_ret
    rw [HV.out]
    exact ⟨A, c, F, rfl, HS1.out⟩
theorem zeroBan (w : World) : (zeroValue 41).run Try.prog w = .ok (.agg #[(.int .i64 0), (.int .i64 0)]) w := by kernel_rfl
set_option maxHeartbeats 8000000 in
set_option maxRecDepth 100000 in
theorem delBan_c (g : Nat) (caps : Array Value) (p : Ban → Bool) (xs : List Ban) (A : Option Addr) (c : Nat) (F : List Nat) (w0 W : World) (L : List Piece)
    (hS : St w0 W (own banD 41 (.slice A xs.length c) xs F :: L)) (hlen : xs.length ≤ 1048576) (eg : ∀ args w, (callFunc g args).run Try.prog w = .ok (.enter g args) w)
    (hc : ∀ (m : Ban) (W' : World) (B : Piece), St w0 W' (B :: L) → Calls Try.prog g (#[.agg #[.int .i64 m.id, .int .i64 m.until_]] ++ caps) W' fun e W'' => e = .returned (.bool (p m)) ∧ Below W'.heap.size W' W'') :
    Calls Try.prog 20 #[.slice A xs.length c, .func (.func g) #[] caps] W (RetOwn banD 41 w0 L (dropP p xs)) := by
  have HS0 := hide hS
  have HC := hide hc
  clear hS hc
  have egI := eg
  by_cases hn : 0 ≤ idxP p xs
  · obtain ⟨k, x, hk, hlk, hx, hpx⟩ := idxP_found hn
    have hA : ∃ b, A = some ⟨b, 0, none⟩ := by
      rcases flat_M (show SliceM (Dt.flat _ _ _ _) _ _ _ _ _ from HS0.out.head) with ⟨h0, _⟩ | ⟨b, cap, cur, hv, _⟩
      · simp only [Value.slice.injEq] at h0; omega
      · simp only [Value.slice.injEq] at hv; exact ⟨b, hv.1⟩
    obtain ⟨b, rfl⟩ := hA
    have HK := hide (DelAt.start hk hx hpx)
    have hlc : xs.length ≤ c := by
      obtain ⟨A2, c2, hv, h2, h3, _⟩ := HS0.out.toK
      simp only [Value.slice.injEq] at hv; omega
    have hcm : c ≤ 9223372036854775807 := by
      obtain ⟨A2, c2, hv, h2, h3, _⟩ := HS0.out.toK
      simp only [Value.slice.injEq] at hv; omega
    have hk1 : ¬ (k : Int) = -1 := by omega
    clear hn hx hpx
    go_enter Try.func20, Try.ntmps20
    go_wp2_with (first
      | (go_at_call 40
         refine (indexBan_c g caps p xs _ _ HS0.out.toK eg (fun m W hb => HC.out m W _ (HS0.out.by hb))).mono ?_
         rintro e w1 ⟨rfl, hb⟩
         rw [hk]
         have HS1 := hide (HS0.out.by hb)
         clear hb))
    clear hk
    go_loopg [5, 6] xs.length (fun gg s5 s6 wr => ∃ (i j : Nat) (cur : List Ban) (F1 : List Nat), i < j ∧ j ≤ xs.length ∧ cur.length = xs.length ∧ xs.length - j ≤ gg ∧ s5 = .int .i64 i ∧ s6 = .int .i64 j ∧ Hid (DelAt p xs cur i j) ∧ Hid (St w0 wr (own banD 41 (.slice (some ⟨b, 0, none⟩) cur.length c) cur F1 :: L)))
    case atStart => exact ⟨k, k + 1, xs, F, by omega, by omega, rfl, by omega, rfl, by go_num, HK, HS1⟩
    case round =>
      obtain ⟨i, j, cur, F1, hij, hjn, hcl, hg, rfl, rfl, HD, HS⟩ := hrel
      by_cases hlt : j < xs.length
      · obtain ⟨x, hx⟩ : ∃ x, xs[j]? = some x := ⟨_, List.getElem?_eq_getElem hlt⟩
        obtain ⟨y, hy⟩ : ∃ y, cur[i]? = some y := ⟨_, List.getElem?_eq_getElem (by omega)⟩
        have HG := hide hy
        have HX := hide hx
        obtain ⟨hcw, hfw, hzw⟩ := St.flatCell (d := banD) rfl HS.out (HD.out.get hx)
        obtain ⟨c0, c1⟩ : wr.cell? ⟨b, j * 2, none⟩ = some (.int .i64 x.id) ∧ wr.cell? ⟨b, j * 2 + 1, none⟩ = some (.int .i64 x.until_) := ⟨hcw 0 _ rfl, hcw 1 _ rfl⟩
        have hlt2 : (j : Int) < (xs.length : Int) := by omega
        have hlt3 : (i : Int) < (xs.length : Int) := by omega
        have hil : i < cur.length := by omega
        clear hx hy hcw hcl
        by_cases hpx : p x = true
        · have HPX := hide hpx
          clear hpx
          go_wp2_with (first
              | (go_at_fn g
                 refine (HC.out x _ (own banD 41 (.slice (some ⟨b, 0, none⟩) cur.length c) cur F1) (St.drop (A := blk wr.heap.size #[.int .i64 x.id, .int .i64 x.until_] 41) (by (repeat (first | (with_reducible exact HS.out) | (with_reducible apply St.alloc) | (with_reducible apply St.set0) | (with_reducible apply St.set1) | (with_reducible apply St.set2) | (with_reducible apply St.set3) | (with_reducible apply St.drew) | (with_reducible apply St.drewN))); all_goals (try (first | rfl | (simp; done)))))).mono ?_
                 rintro e w2 ⟨rfl, hb⟩
                 rw [HPX.out]
                 have HS2 := hide (St.by (show St w0 _ (blk wr.heap.size #[.int .i64 x.id, .int .i64 x.until_] 41 :: own banD 41 (.slice (some ⟨b, 0, none⟩) cur.length c) cur F1 :: L) from by (repeat (first | (with_reducible exact HS.out) | (with_reducible apply St.alloc) | (with_reducible apply St.set0) | (with_reducible apply St.set1) | (with_reducible apply St.set2) | (with_reducible apply St.set3) | (with_reducible apply St.drew) | (with_reducible apply St.drewN))); all_goals (try (first | rfl | (simp; done)))) hb)
                 have bc := HS2.out.at0
                 obtain ⟨b0, b1⟩ := bc.c2
                 have bz := bc.lt
                 obtain ⟨hcw, hfw, hzw⟩ := St.flatCell (d := banD) rfl HS2.out.drop HG.out
                 obtain ⟨d0, d1⟩ : w2.cell? ⟨b, i * 2, none⟩ = some (.int .i64 y.id) ∧ w2.cell? ⟨b, i * 2 + 1, none⟩ = some (.int .i64 y.until_) := ⟨hcw 0 _ rfl, hcw 1 _ rfl⟩
                 clear hb bc hcw))
          go_roundg (xs.length - (j + 1))
          case measure => omega
          case rel => exact ⟨i, j + 1, cur, F1, by omega, by omega, HD.out.len, by omega, rfl, by go_num, hide (HD.out.skip HX.out HPX.out), hide HS2.out.drop⟩
        · have HPX := hide (show p x = false by simpa using hpx)
          clear hpx
          go_wp2_with (first
              | (go_at_fn g
                 refine (HC.out x _ (own banD 41 (.slice (some ⟨b, 0, none⟩) cur.length c) cur F1) (St.drop (A := blk wr.heap.size #[.int .i64 x.id, .int .i64 x.until_] 41) (by (repeat (first | (with_reducible exact HS.out) | (with_reducible apply St.alloc) | (with_reducible apply St.set0) | (with_reducible apply St.set1) | (with_reducible apply St.set2) | (with_reducible apply St.set3) | (with_reducible apply St.drew) | (with_reducible apply St.drewN))); all_goals (try (first | rfl | (simp; done)))))).mono ?_
                 rintro e w2 ⟨rfl, hb⟩
                 rw [HPX.out]
                 have HS2 := hide (St.by (show St w0 _ (blk wr.heap.size #[.int .i64 x.id, .int .i64 x.until_] 41 :: own banD 41 (.slice (some ⟨b, 0, none⟩) cur.length c) cur F1 :: L) from by (repeat (first | (with_reducible exact HS.out) | (with_reducible apply St.alloc) | (with_reducible apply St.set0) | (with_reducible apply St.set1) | (with_reducible apply St.set2) | (with_reducible apply St.set3) | (with_reducible apply St.drew) | (with_reducible apply St.drewN))); all_goals (try (first | rfl | (simp; done)))) hb)
                 have bc := HS2.out.at0
                 obtain ⟨b0, b1⟩ := bc.c2
                 have bz := bc.lt
                 obtain ⟨hcw, hfw, hzw⟩ := St.flatCell (d := banD) rfl HS2.out.drop HG.out
                 obtain ⟨d0, d1⟩ : w2.cell? ⟨b, i * 2, none⟩ = some (.int .i64 y.id) ∧ w2.cell? ⟨b, i * 2 + 1, none⟩ = some (.int .i64 y.until_) := ⟨hcw 0 _ rfl, hcw 1 _ rfl⟩
                 clear hb bc hcw))
          go_roundg (xs.length - (j + 1))
          case measure => omega
          case rel =>
            have hS3 := St.putFlat (d := banD) rfl HS2.out.drop hil x
            refine ⟨i + 1, j + 1, cur.set i x, F1, by omega, by omega, by have := HD.out.len; simpa using this, by omega, by go_num, by go_num, hide (HD.out.keep HX.out HPX.out), hide ?_⟩
            rw [List.length_set]
            exact hS3
      · obtain rfl : j = xs.length := by omega
        have hDone := hide HD.out.done
        have hin : i < xs.length := by omega
        obtain ⟨vs, hcl2⟩ := run_clear_flat (P := Try.prog) (n := 2) wr 26 41 _ Try.underlying26 zeroBan rfl (by simp [Value.cells, Value.oneCell']) b (i * 2) (xs.length - i) (c - i) (by omega) (fun q hq => St.flatSome (d := banD) rfl HS.out _ (by
          have h1 : (xs.length - i) * 2 + i * 2 = xs.length * 2 := by rw [← Nat.add_mul]; congr 1; omega
          rw [hcl]; omega)) (fun q => (St.flatCell (d := banD) (k := i) rfl HS.out (List.getElem?_eq_getElem (by omega))).2.1 q)
        clear hcl
        go_wp2_with fail
        go_ret
        obtain ⟨hd1, hd2⟩ := hDone.out
        have hS9 := St.cutFlat (d := banD) rfl HS.out (i := i) (by have := HD.out.len; omega) vs
        rw [hd1] at hS9
        refine ⟨some ⟨b, 0, none⟩, c, F1, by rw [hd2]; rfl, ?_⟩
        rw [hd2]; exact hS9
  · have HV := hide (dropP_none (p := p) (xs := xs) (by omega))
    have hkn : idxP p xs = -1 := idxP_neg (by omega)
    clear hn
    go_enter Try.func20, Try.ntmps20
    go_wp2_with (first
      | (go_at_call 40
         refine (indexBan_c g caps p xs _ _ HS0.out.toK eg (fun m W hb => HC.out m W _ (HS0.out.by hb))).mono ?_
         rintro e w1 ⟨rfl, hb⟩
         rw [hkn]
         have HS1 := hide (HS0.out.by hb)
         clear hb))
    go_ret
    rw [HV.out]
    exact ⟨A, c, F, rfl, HS1.out⟩
end Go.Proofs.Ytglhepbcbildpaa
