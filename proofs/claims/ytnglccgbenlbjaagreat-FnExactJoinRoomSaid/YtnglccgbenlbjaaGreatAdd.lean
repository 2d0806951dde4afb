/- A member is put into a row: the reference. -/
import Derived.Test.YtnglccgbenlbjaaGreatInsPlain
import Derived.Test.YtnglccgbenlbjaaGreatRest
namespace Go.Proofs.YtnglccgbenlbjaaGreat
open Go Go.RowKit Go.BigFrame
set_option linter.unusedVariables false
set_option linter.unusedSimpArgs false
set_option maxHeartbeats 8000000 in
set_option maxRecDepth 100000 in
theorem l02Add_c (l : List Member) (v : Value) (m : Member) (w : World) (hl : SliceK memberD w v l) (h40 : l.length ≤ 1000) :
    Calls Tryz.prog 28 #[v, .agg #[.int .i64 m.id, .int .i64 m.role, .int .i64 m.since, .int .i64 m.quiet]] w (RetMade memberD 54 w (insK Member.id m l)) := by
  obtain ⟨A, c, rfl, hlc, hmx, hra⟩ := hl
  have HA := hide hra
  clear hra
  go_enter Tryz.func28, Tryz.ntmps28
  go_wp2_with fail
  go_loopg [5, 6, 7] l.length (fun gg s5 s6 s7 wr => ∃ (k : Nat) (out : List Member) (put : Bool) (A9 : Option Addr) (c9 : Nat) (F9 : List Nat), k ≤ l.length ∧ l.length - k ≤ gg ∧ s5 = .slice A9 out.length c9 ∧ s6 = .bool put ∧ s7 = .int .i64 k ∧ Hid (InsAt Member.id m l out put k) ∧ Hid (St w wr (own memberD 54 (.slice A9 out.length c9) out F9 :: blk w.heap.size #[.int .i64 m.id, .int .i64 m.role, .int .i64 m.since, .int .i64 m.quiet] 54 :: [])))
  case atStart => exact ⟨0, [], false, _, _, _, Nat.zero_le _, by omega, rfl, rfl, rfl, hide (InsAt.start l), hide (St.empty (((St.start w).alloc rfl).alloc (by simp)))⟩
  case round =>
    obtain ⟨k, out, put, A9, c9, F9, hk, hg, rfl, rfl, rfl, HI, HS⟩ := hrel
    have hol := HI.out.len
    obtain ⟨b0, b1, b2, b3⟩ := HS.out.at1.c4
    have bz := HS.out.at1.lt
    by_cases hlt : k < l.length
    · obtain ⟨x, hx⟩ : ∃ x, l[k]? = some x := ⟨_, List.getElem?_eq_getElem hlt⟩
      rcases HA.out with hnil | ⟨q, o2, rfl, hra⟩
      · rw [hnil] at hlt; simp at hlt
      obtain ⟨hq, hc0, hc1, hc2, hc3⟩ := member_at hra HS.out.below hx
      have HX := hide hx
      have HRA := hide hra
      have hlt2 : (k : Int) < (l.length : Int) := by omega
      clear hx hra HA
      cases put with
      | true =>
        go_wp2_with fail
        all_goals try go_quiet (fail)
        all_goals go_wp2_with (first
          | (at_builtin
             refine wpList_app1_st (d := memberD) (w0 := w) rfl _ rfl _ _ _ rfl (.agg #[.int .i64 0, .int .i64 0, .int .i64 0, .int .i64 0]) 32 Tryz.underlying28 infoMember rfl (by omega) (by omega) (.slice A9 out.length c9) (out) F9 rfl wr.heap.size #[.int .i64 x.id, .int .i64 x.role, .int .i64 x.since, .int .i64 x.quiet] (by (repeat (first | (with_reducible exact HS.out) | (with_reducible apply St.alloc) | (with_reducible apply St.set0) | (with_reducible apply St.set1) | (with_reducible apply St.set2) | (with_reducible apply St.set3) | (with_reducible apply St.drew) | (with_reducible apply St.drewN))); all_goals (try (first | rfl | (simp; done)))) 1 rfl x rfl (by first | omega | (simp; omega)) ?_
             intro gB capB wB FB hS
             have HSB := hide hS
             obtain ⟨uB0, uB1, uB2, uB3⟩ := hS.at1.c4
             have uzB := hS.at1.lt
             skip
             clear hS))
        go_roundg (l.length - (k + 1))
        case measure => omega
        case rel => exact ⟨k + 1, out ++ [x], true, some ⟨gB, 0, none⟩, capB, FB, by omega, by omega, by simp, rfl, by go_num, hide (HI.out.more HX.out), hide (by have h := HSB.out; simpa using h)⟩
      | false =>
        by_cases hid : m.id < x.id
        · have HID := hide hid
          have hdd : decide (m.id < x.id) = true := decide_eq_true hid
          go_wp2_with fail
          all_goals try go_quiet (fail)
          all_goals go_wp2_with (first
            | (at_builtin
               refine wpList_app1_st (d := memberD) (w0 := w) rfl _ rfl _ _ _ rfl (.agg #[.int .i64 0, .int .i64 0, .int .i64 0, .int .i64 0]) 32 Tryz.underlying28 infoMember rfl (by omega) (by omega) (.slice A9 out.length c9) (out) F9 rfl wr.heap.size #[.int .i64 m.id, .int .i64 m.role, .int .i64 m.since, .int .i64 m.quiet] (by (repeat (first | (with_reducible exact HS.out) | (with_reducible apply St.alloc) | (with_reducible apply St.set0) | (with_reducible apply St.set1) | (with_reducible apply St.set2) | (with_reducible apply St.set3) | (with_reducible apply St.drew) | (with_reducible apply St.drewN))); all_goals (try (first | rfl | (simp; done)))) 1 rfl m rfl (by first | omega | (simp; omega)) ?_
               intro gA capA wA FA hS
               have HSA := hide hS
               obtain ⟨uA0, uA1, uA2, uA3⟩ := hS.at1.c4
               have uzA := hS.at1.lt
               obtain ⟨hqA, eA0, eA1, eA2, eA3⟩ := member_at HRA.out hS.below HX.out
               clear hS)
            | (at_builtin
               refine wpList_app1_st (d := memberD) (w0 := w) rfl _ rfl _ _ _ rfl (.agg #[.int .i64 0, .int .i64 0, .int .i64 0, .int .i64 0]) 32 Tryz.underlying28 infoMember rfl (by omega) (by omega) (.slice (some ⟨gA, 0, none⟩) (out.length + 1) capA) ((out ++ [m])) FA rfl wA.heap.size #[.int .i64 x.id, .int .i64 x.role, .int .i64 x.since, .int .i64 x.quiet] (by (repeat (first | (with_reducible exact HSA.out) | (with_reducible apply St.alloc) | (with_reducible apply St.set0) | (with_reducible apply St.set1) | (with_reducible apply St.set2) | (with_reducible apply St.set3) | (with_reducible apply St.drew) | (with_reducible apply St.drewN))); all_goals (try (first | rfl | (simp; done)))) 1 rfl x rfl (by first | omega | (simp; omega)) ?_
               intro gB capB wB FB hS
               have HSB := hide hS
               obtain ⟨uB0, uB1, uB2, uB3⟩ := hS.at1.c4
               have uzB := hS.at1.lt
               skip
               clear hS))
          go_roundg (l.length - (k + 1))
          case measure => omega
          case rel => exact ⟨k + 1, out ++ [m] ++ [x], true, some ⟨gB, 0, none⟩, capB, FB, by omega, by omega, by simp, rfl, by go_num, hide (HI.out.put HX.out HID.out), hide (by have h := HSB.out; simpa using h)⟩
        · have HID := hide hid
          have hdd : decide (m.id < x.id) = false := decide_eq_false hid
          go_wp2_with fail
          all_goals try go_quiet (fail)
          all_goals go_wp2_with (first
            | (at_builtin
               refine wpList_app1_st (d := memberD) (w0 := w) rfl _ rfl _ _ _ rfl (.agg #[.int .i64 0, .int .i64 0, .int .i64 0, .int .i64 0]) 32 Tryz.underlying28 infoMember rfl (by omega) (by omega) (.slice A9 out.length c9) (out) F9 rfl wr.heap.size #[.int .i64 x.id, .int .i64 x.role, .int .i64 x.since, .int .i64 x.quiet] (by (repeat (first | (with_reducible exact HS.out) | (with_reducible apply St.alloc) | (with_reducible apply St.set0) | (with_reducible apply St.set1) | (with_reducible apply St.set2) | (with_reducible apply St.set3) | (with_reducible apply St.drew) | (with_reducible apply St.drewN))); all_goals (try (first | rfl | (simp; done)))) 1 rfl x rfl (by first | omega | (simp; omega)) ?_
               intro gB capB wB FB hS
               have HSB := hide hS
               obtain ⟨uB0, uB1, uB2, uB3⟩ := hS.at1.c4
               have uzB := hS.at1.lt
               skip
               clear hS))
          go_roundg (l.length - (k + 1))
          case measure => omega
          case rel => exact ⟨k + 1, out ++ [x], false, some ⟨gB, 0, none⟩, capB, FB, by omega, by omega, by simp, rfl, by go_num, hide (HI.out.keep HX.out (by have := HID.out; omega)), hide (by have h := HSB.out; simpa using h)⟩
    · obtain rfl : k = l.length := by omega
      clear HA hlt
      cases put with
      | true =>
        have hd := HI.out.done
        go_wp2_with fail
        go_ret
        have h9 := HS.out
        rw [hd] at h9
        rw [hd]
        exact ⟨_, rfl, ⟨F9, h9.head, h9.headN, h9.headG⟩, h9.below⟩
      | false =>
        have HLA := hide HI.out.last
        go_wp2_with (first
          | (at_builtin
             refine wpList_app1_st (d := memberD) (w0 := w) rfl _ rfl _ _ _ rfl (.agg #[.int .i64 0, .int .i64 0, .int .i64 0, .int .i64 0]) 32 Tryz.underlying28 infoMember rfl (by omega) (by omega) (.slice A9 out.length c9) (out) F9 rfl wr.heap.size #[.int .i64 m.id, .int .i64 m.role, .int .i64 m.since, .int .i64 m.quiet] (by (repeat (first | (with_reducible exact HS.out) | (with_reducible apply St.alloc) | (with_reducible apply St.set0) | (with_reducible apply St.set1) | (with_reducible apply St.set2) | (with_reducible apply St.set3) | (with_reducible apply St.drew) | (with_reducible apply St.drewN))); all_goals (try (first | rfl | (simp; done)))) 1 rfl m rfl (by first | omega | (simp; omega)) ?_
             intro gB capB wB FB hS
             have HSB := hide hS
             obtain ⟨uB0, uB1, uB2, uB3⟩ := hS.at1.c4
             have uzB := hS.at1.lt
             skip
             clear hS))
        go_ret
        have h9 := HSB.out
        rw [HLA.out] at h9
        exact ⟨_, rfl, ⟨FB, h9.head, h9.headN, h9.headG⟩, h9.below⟩
end Go.Proofs.YtnglccgbenlbjaaGreat
