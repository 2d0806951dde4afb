/- Ranks: the program. -/
import Derived.Test.YtglhepbcbildpaaRankPlain
import Derived.Test.YtglhepbcbildpaaSortRoom
import Derived.Test.YtglhepbcbildpaaRoomCopy
namespace Go.Proofs.Ytglhepbcbildpaa
open Go Go.RowKit Go.BigFrame
set_option linter.unusedVariables false
set_option linter.unusedSimpArgs false
set_option maxHeartbeats 4000000 in
theorem ranks1_c (x y : Member) (W : World) : Calls Try.prog 43 #[.agg #[.int .i64 x.id, .int .i64 x.role, .int .i64 x.since, .int .i64 x.quiet], .agg #[.int .i64 y.id, .int .i64 y.role, .int .i64 y.since, .int .i64 y.quiet]] W fun r w' => r = .returned (.int .i64 (cfRank x y)) ∧ Grew W w' := by
  have HG := hide (((Grew.refl W).alloc (.cells #[.int .i64 x.id, .int .i64 x.role, .int .i64 x.since, .int .i64 x.quiet] 55)).alloc (.cells #[.int .i64 y.id, .int .i64 y.role, .int .i64 y.since, .int .i64 y.quiet] 55))
  go_enter Try.func43, Try.ntmps43
  go_wp2_with fail
  obtain ⟨Wg, hWg⟩ : ∃ V, V = (W.alloc (.cells #[.int .i64 x.id, .int .i64 x.role, .int .i64 x.since, .int .i64 x.quiet] 55)).alloc (.cells #[.int .i64 y.id, .int .i64 y.role, .int .i64 y.since, .int .i64 y.quiet] 55) := ⟨_, rfl⟩
  rw [← hWg]
  rw [← hWg] at HG
  have hz1 : W.heap.size < Wg.heap.size := by rw [hWg]; simp; omega
  have hz2 : W.heap.size + 1 < Wg.heap.size := by rw [hWg]; simp
  have a0 : Wg.cell? ⟨W.heap.size, 0, none⟩ = some (.int .i64 x.id) := by rw [hWg]; go_simp
  have a1 : Wg.cell? ⟨W.heap.size, 1, none⟩ = some (.int .i64 x.role) := by rw [hWg]; go_simp
  have a2 : Wg.cell? ⟨W.heap.size, 2, none⟩ = some (.int .i64 x.since) := by rw [hWg]; go_simp
  have b0 : Wg.cell? ⟨W.heap.size + 1, 0, none⟩ = some (.int .i64 y.id) := by rw [hWg]; go_simp
  have b1 : Wg.cell? ⟨W.heap.size + 1, 1, none⟩ = some (.int .i64 y.role) := by rw [hWg]; go_simp
  have b2 : Wg.cell? ⟨W.heap.size + 1, 2, none⟩ = some (.int .i64 y.since) := by rw [hWg]; go_simp
  clear hWg
  go_region_held3 (fun w' : World => w'.cell? ⟨W.heap.size, 0, none⟩ = some (.int .i64 x.id) ∧ w'.cell? ⟨W.heap.size, 1, none⟩ = some (.int .i64 x.role) ∧ w'.cell? ⟨W.heap.size, 2, none⟩ = some (.int .i64 x.since) ∧ w'.cell? ⟨W.heap.size + 1, 0, none⟩ = some (.int .i64 y.id) ∧ w'.cell? ⟨W.heap.size + 1, 1, none⟩ = some (.int .i64 y.role) ∧ w'.cell? ⟨W.heap.size + 1, 2, none⟩ = some (.int .i64 y.since)) (go_keep) (first
    | (go_at_call 45; refine (compare_c _ _ _).mono ?_; rintro e w' ⟨rfl, rfl⟩)
    | (go_at_call 44; refine (or_c (cmpI y.role x.role) (cmpI x.since y.since) (cmpI x.id y.id) Wg.heap.size 3 _ (by go_simp) (by go_simp) (by go_simp)).mono ?_; rintro e w' ⟨rfl, rfl⟩))
  all_goals
    go_wp2_with fail
    go_ret
    exact ⟨rfl, by first | exact (HG.out.drew).alloc _ | exact (HG.out.alloc _).drew⟩
theorem ranks1_of : CmpOf Try.prog 43 #[] (fun x : Member => [.int .i64 x.id, .int .i64 x.role, .int .i64 x.since, .int .i64 x.quiet]) cfRank := fun x y W => ranks1_c x y W
set_option maxHeartbeats 8000000 in
set_option maxRecDepth 100000 in
theorem ranks_c (r : Room) (b o : Nat) (w : World) (hp : RowAt roomD w b o [r]) (hf : fewR r) (hd : DistId r.members) :
    Calls Try.prog 23 #[.pointer (some ⟨b, o, none⟩)] w (RetMade intD 2 w ((rankS r.members).map Member.id)) := by
  obtain ⟨v1, v2, v3, h1, h2, h3, hbz, hb0, hb1, hb2, hb3⟩ := room_at hp (Below.refl _ _) (j := 0) rfl
  simp only [Nat.zero_mul, Nat.add_zero] at hb0 hb1 hb2 hb3
  obtain ⟨A1, c1, rfl⟩ := h1.shape
  have H1 := hide h1
  have HD := hide hd
  have h40 := hf.1
  have eg := enters_of Try.func43 (by kernel_rfl) rfl
  clear h1 h2 h3 hp hf hd
  go_enter Try.func23, Try.ntmps23
  go_wp2_with (first
    | (go_at_call 41
       refine (cloneMember_c _ r.members _ H1.out (by omega)).mono ?_
       rintro e w1 ⟨v, rfl, hM, hb⟩
       obtain ⟨B1, e1, rfl⟩ := hM.shape
       obtain ⟨F1, hS⟩ := (St.start w).made hM hb
       have HS1 := hide hS
       clear hM hb hS)
    | (go_at_call 42
       refine (sortMember_c cfRank swoRank _ #[] B1 HS1.out (by omega) eg ranks1_of).mono ?_
       rintro e w2 ⟨rfl, ys, hperm, hpw, hS⟩
       have hys : ys = rankS r.members := rank_uniq HD.out hperm (hpw.imp fun {x y} h => by rw [cfRank_neg] at h; simpa using h)
       subst hys
       have HS2 := hide hS
       have hlr : (rankS r.members).length = r.members.length := hperm.length_eq
       have HLR := hide hlr
       clear hperm hpw hS hlr))
  go_loopg [4, 17] r.members.length (fun gg s4 s17 wr => ∃ (k : Nat) (A4 : Option Addr) (c4 : Nat) (F4 : List Nat), k ≤ r.members.length ∧ r.members.length - k ≤ gg ∧ s4 = .slice A4 k c4 ∧ s17 = .int .i64 k ∧ Hid (St w wr (own intD 2 (.slice A4 k c4) (((rankS r.members).take k).map Member.id) F4 :: own memberD 55 (.slice B1 r.members.length e1) (rankS r.members) F1 :: [])))
  case atStart => exact ⟨0, _, _, _, Nat.zero_le _, by omega, rfl, rfl, hide (St.empty (show St w _ (blk w2.heap.size #[] 2 :: own memberD 55 (.slice B1 r.members.length e1) (rankS r.members) F1 :: []) from by (repeat (first | (with_reducible exact HS2.out) | (with_reducible apply St.alloc) | (with_reducible apply St.set0) | (with_reducible apply St.set1) | (with_reducible apply St.set2) | (with_reducible apply St.set3) | (with_reducible apply St.drew) | (with_reducible apply St.drewN))); all_goals (try (first | rfl | (simp; done)))))⟩
  case round =>
    obtain ⟨k, A4, c4, F4, hk, hg, rfl, rfl, HS⟩ := hrel
    by_cases hlt : k < r.members.length
    · obtain ⟨m, hx⟩ : ∃ m, (rankS r.members)[k]? = some m := ⟨_, List.getElem?_eq_getElem (by rw [HLR.out]; exact hlt)⟩
      have hS9 := HS.out.pull1
      obtain ⟨⟨q, rfl⟩, -, hle⟩ := St.hasBlk (d := memberD) rfl hS9 hx
      rw [← HLR.out] at hS9
      obtain ⟨hcw, hfw, hzw⟩ := St.flatCell (d := memberD) rfl hS9 hx
      obtain ⟨d0, d1, d2, d3⟩ : wr.cell? ⟨q, k * 4, none⟩ = some (.int .i64 m.id) ∧ wr.cell? ⟨q, k * 4 + 1, none⟩ = some (.int .i64 m.role) ∧ wr.cell? ⟨q, k * 4 + 2, none⟩ = some (.int .i64 m.since) ∧ wr.cell? ⟨q, k * 4 + 3, none⟩ = some (.int .i64 m.quiet) := ⟨hcw 0 _ rfl, hcw 1 _ rfl, hcw 2 _ rfl, hcw 3 _ rfl⟩
      have HX := hide hx
      have hlt2 : (k : Int) < (r.members.length : Int) := by omega
      have htl : (((rankS r.members).take k).map Member.id).length = k := by rw [List.length_map, List.length_take, HLR.out]; omega
      have HTL := hide htl
      clear hx hcw hS9 htl hle
      go_wp2_with (
        at_builtin
        refine wpList_app1_st (d := intD) (w0 := w) rfl _ rfl _ _ _ rfl (.int .i64 0) 8 Try.underlying33 infoI64 rfl (by omega) (by omega) (.slice A4 k c4) (((rankS r.members).take k).map Member.id) F4 rfl (wr.heap.size + 1) #[.int .i64 m.id] (St.drop1 (B := blk wr.heap.size #[.int .i64 m.id, .int .i64 m.role, .int .i64 m.since, .int .i64 m.quiet] 55) (by (repeat (first | (with_reducible exact HS.out) | (with_reducible apply St.alloc) | (with_reducible apply St.set0) | (with_reducible apply St.set1) | (with_reducible apply St.set2) | (with_reducible apply St.set3) | (with_reducible apply St.drew) | (with_reducible apply St.drewN))); all_goals (try (first | rfl | (simp; done))))) 1 rfl m.id rfl (by rw [HTL.out]; omega) ?_
        intro g cap w4 G4 hS
        rw [HTL.out] at hS ⊢
        have HS4 := hide hS
        clear hS)
      go_roundg (r.members.length - (k + 1))
      case measure => omega
      case rel =>
        refine ⟨k + 1, some ⟨g, 0, none⟩, cap, G4, by omega, by omega, rfl, by go_num, hide ?_⟩
        have hE : ((rankS r.members).take (k + 1)).map Member.id = ((rankS r.members).take k).map Member.id ++ [m.id] := by
          rw [List.take_add_one, HX.out]; simp
        rw [hE]
        exact HS4.out
    · obtain rfl : k = r.members.length := by omega
      go_wp2_with fail
      go_ret
      have h9 := HS.out
      rw [List.take_of_length_le (by rw [HLR.out]; exact Nat.le_refl _)] at h9
      exact ⟨_, rfl, ⟨F4, h9.head, h9.headN, h9.headG⟩, h9.below⟩
end Go.Proofs.Ytglhepbcbildpaa
