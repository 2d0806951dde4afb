/- How many members have each role: the program. -/
import Derived.Test.YtglhepbcbildpaaRoomFind
import Derived.Test.YtglhepbcbildpaaRGround
namespace Go.Proofs.Ytglhepbcbildpaa
open Go Go.RowKit Go.BigFrame
attribute [local go_sem] Calm.cell Calm.frozen
set_option linter.unusedVariables false
set_option linter.unusedSimpArgs false

theorem rolesL_get (ms : List Member) {n : Nat} (h : n < 4) : (rolesL ms)[n]? = some (roleN ms n) := by
  match n, h with
  | 0, _ => rfl
  | 1, _ => rfl
  | 2, _ => rfl
  | 3, _ => rfl
theorem rolesL_step {ms : List Member} {k n : Nat} {m : Member} (hx : ms[k]? = some m) (hr : m.role = (n : Int)) (h : n < 4) : (rolesL (ms.take k)).set n (roleN (ms.take k) n + 1) = rolesL (ms.take (k + 1)) := by
  match n, h with
  | 0, _ => simp [rolesL, roleN_step hx, hr]
  | 1, _ => simp [rolesL, roleN_step hx, hr]
  | 2, _ => simp [rolesL, roleN_step hx, hr]
  | 3, _ => simp [rolesL, roleN_step hx, hr]
theorem infoI64 : (Try.prog.info? 2).map (fun i => (i.zero, i.size, i.bytes)) = some (some (.int .i64 0), 1, 8) := by kernel_rfl
set_option maxHeartbeats 4000000 in
theorem roles_c (r : Room) (b o : Nat) (w : World) (hp : RowAt roomD w b o [r]) (hr : ∀ m ∈ r.members, inB m.role 0 3 = true) (h32 : r.members.length ≤ 1000) :
    Calls Try.prog 24 #[.pointer (some ⟨b, o, none⟩)] w (RetMade intD 2 w (rolesL r.members)) := by
  obtain ⟨v1, v2, v3, h1, h2, h3, hbz, hb0, hb1, hb2, hb3⟩ := room_at hp (Below.refl _ _) (j := 0) rfl
  simp only [Nat.zero_mul, Nat.add_zero] at hb0 hb1 hb2 hb3
  obtain ⟨A, c, rfl, hl, hm, hra⟩ := h1
  have HA := hide hra
  have HR := hide hr
  clear hra hp hr h2 h3
  have hmk := run_mk (P := Try.prog) 33 2 (.int .i64 0) 1 8 Try.underlying33 infoI64 4 (by omega) (by omega)
  simp only [Int.cast_ofNat_Int] at hmk
  have hbz1 : b < w.heap.size + 1 := by omega
  go_enter Try.func24, Try.ntmps24
  go_wp2_with fail
  go_loopg [12] r.members.length (fun gg s12 wr => ∃ k : Nat, k ≤ r.members.length ∧ r.members.length - k ≤ gg ∧ s12 = .int .i64 k ∧ Hid (Made intD 2 w wr (.slice (some ⟨w.heap.size, 0, none⟩) 4 4) (rolesL (r.members.take k))) ∧ Hid (Below w.heap.size w wr))
  case atStart =>
    refine ⟨0, Nat.zero_le _, by omega, rfl, hide ⟨[w.heap.size], ?_, by simp, by simp⟩, (Below.refl _ _).alloc (Nat.le_refl _) _⟩
    exact flat_M_mk (xs := rolesL []) (cap := 4) (by simp [rolesL]) (by omega) (alloc_new w _) (by simp [size_mkRow]) (by simp [mkRow, madeCells, rolesL, roleN, Value.cells]; rfl)
  case round =>
    obtain ⟨k, hk, hg, rfl, HM, HB⟩ := hrel
    have hb1 := cell_below HB.out hb1
    clear hmk hbz1
    by_cases hlt : k < r.members.length
    · obtain ⟨m, hx⟩ : ∃ m, r.members[k]? = some m := ⟨_, List.getElem?_eq_getElem hlt⟩
      rcases HA.out with hnil | ⟨q, o2, rfl, hra⟩
      · rw [hnil] at hlt; simp at hlt
      obtain ⟨hq, hc0, hc1, hc2, hc3⟩ := member_at hra HB.out hx
      have hrr := inB_iff.1 (HR.out m (List.mem_of_getElem? hx))
      obtain ⟨n, hn⟩ : ∃ n : Nat, m.role = (n : Int) := ⟨m.role.toNat, by omega⟩
      have hn4 : n < 4 := by omega
      have hn5 : (n : Int) < 4 := by omega
      obtain ⟨F, hM, hF, hFB⟩ := HM.out
      have hbd := roleN_nn (r.members.take k) n
      have hlen : (r.members.take k).length ≤ 1000 := by simp; omega
      obtain ⟨cs, G, hE⟩ := SliceM.elem (b := w.heap.size) (cap := 4) (xs := rolesL (r.members.take k)) hM hF (rolesL_get _ hn4)
      obtain ⟨rfl, rfl⟩ := hE.M
      have gB := hE.cell 0 _ rfl
      simp only [show intD.sz = 1 from rfl, Nat.mul_one, Nat.add_zero] at gB
      have gF := hE.frozen
      have gL := hE.lt
      have hwr : IntKind.i64.wrap (roleN (r.members.take k) n + 1) = roleN (r.members.take k) n + 1 := IntWalk.i64_in _ (by omega)
      have hlt2 : (k : Int) < (r.members.length : Int) := by omega
      have hne : ¬ w.heap.size = wr.heap.size := by omega
      have hne' : ¬ wr.heap.size = w.heap.size := by omega
      have HX := hide hx
      have HE := hide (And.intro hE hFB)
      rw [hn] at hc1
      clear hra HA hx hM hF hFB HM hE hrr hbd
      go_wp2_with fail
      go_roundg (r.members.length - (k + 1))
      case measure => omega
      case rel =>
        obtain ⟨hE, hFB⟩ := HE.out
        have hT := hE.turn ((wr.setCell ⟨w.heap.size, n, none⟩ (.int .i64 (roleN (r.members.take k) n + 1))).alloc (.cells #[.int .i64 m.id, .int .i64 n, .int .i64 m.since, .int .i64 m.quiet] 55)) [.int .i64 (roleN (r.members.take k) n + 1)] (roleN (r.members.take k) n + 1) []
          (((Wrote.refl _ _ _ _ wr).set n _ (by simp [show intD.sz = 1 from rfl]) (by simp [show intD.sz = 1 from rfl])).alloc _)
          (((Chg.refl [w.heap.size] wr).setCell (p := ⟨w.heap.size, n, none⟩) (.inl List.mem_cons_self) _).alloc _) ⟨rfl, rfl⟩
          (fun i u hu => by
            cases i with
            | zero => simp at hu; subst hu; simp only [show intD.sz = 1 from rfl, Nat.mul_one, Nat.add_zero]; go_simp
            | succ i => simp at hu) (by simp) (by simp)
        obtain ⟨F', hS', hF', hfr', hc'⟩ := hT
        rw [rolesL_step HX.out hn hn4] at hS'
        refine ⟨k + 1, by omega, by omega, by go_num, hide ⟨F', hS', hF', fun y hy => ?_⟩, hide (HB.out.trans (hc'.below (B := w.heap.size) HB.out.size hFB))⟩
        rcases hfr' y hy with h | h
        · exact hFB y h
        · have := HB.out.size; omega
    · have : k = r.members.length := by omega
      subst this
      have hm2 := HM.out
      rw [List.take_length] at hm2
      have HM2 := hide hm2
      clear HM hm2 HA
      go_wp2_with fail
      go_ret
      exact ⟨_, rfl, HM2.out, HB.out⟩
set_option maxHeartbeats 4000000 in
theorem owners_c (r : Room) (b o : Nat) (w : World) (hp : RowAt roomD w b o [r]) (hr : ∀ m ∈ r.members, inB m.role 0 3 = true) (h32 : r.members.length ≤ 1000) :
    Calls Try.prog 33 #[.pointer (some ⟨b, o, none⟩)] w fun e w' => e = .returned (.int .i64 (roleN r.members 3)) ∧ Below w.heap.size w w' := by
  have HP := hide hp
  have HR := hide hr
  clear hp hr
  go_enter Try.func33, Try.ntmps33
  go_wp2_with (
    go_at_call 24
    refine (roles_c r _ _ _ HP.out HR.out h32).mono ?_
    rintro e w1 ⟨v, rfl, hmade, hb⟩
    obtain ⟨F, hM, -, -⟩ := hmade
    obtain ⟨A, c, rfl, hl, hmx, hra⟩ := hM.toK
    rcases hra with hnil | ⟨q, o2, rfl, hra⟩
    · exact absurd hnil (by simp [rolesL])
    have g3 := (int_at hra (Below.refl _ _) (rolesL_get r.members (n := 3) (by omega))).2
    have hl4 : (rolesL r.members).length = 4 := rfl
    simp only [hl4]
    have HB := hide hb
    clear hb hM hra)
  go_ret
  exact ⟨rfl, HB.out⟩
end Go.Proofs.Ytglhepbcbildpaa
