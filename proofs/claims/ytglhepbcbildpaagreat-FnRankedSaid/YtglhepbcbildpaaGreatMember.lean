/- A member of a room is changed: the program. -/
import Derived.Test.YtglhepbcbildpaaGreatMayTo
import Derived.Test.YtglhepbcbildpaaGreatRGround
import Derived.Test.YtglhepbcbildpaaGreatRTypes
import Derived.Deep.RegionHeld3
namespace Go.Proofs.YtglhepbcbildpaaGreat
open Go Go.RowKit Go.BigFrame
set_option linter.unusedVariables false
set_option linter.unusedSimpArgs false

/-- What a function value does with a member of a row. -/
def TurnsM (P : Program) (g : Nat) (caps : Array Value) (f : Member → Member) (w : World) : Prop :=
  ∀ (ms : List Member) (k : Nat) (m : Member) (b c : Nat) (F : List Nat) (w1 W : World) (L : List Piece), Below w.heap.size w w1 → St w1 W (own memberD 55 (.slice (some ⟨b, 0, none⟩) ms.length c) ms F :: L) → ms[k]? = some m →
    Calls P g (#[.pointer (some ⟨b, k * 4, none⟩)] ++ caps) W fun r W' => r = .returned (.tuple #[]) ∧ St w1 W' (own memberD 55 (.slice (some ⟨b, 0, none⟩) ms.length c) (ms.set k (f m)) F :: L)
theorem TurnsM.mono {P : Program} {g : Nat} {caps : Array Value} {f : Member → Member} {w w' : World} (h : TurnsM P g caps f w) (hb : Below w.heap.size w w') : TurnsM P g caps f w' :=
  fun ms k m b c F w1 W L hb1 hS hx => h ms k m b c F w1 W L (below_step hb hb1) hS hx
def setMem (r : Room) (id : Int) (f : Member → Member) : Room := match r.members.find? (idIs id) with
  | none => r
  | some m => { r with members := r.members.set (idxP (idIs id) r.members).toNat (f m) }
def wmF (n id act a : Int) (f : Member → Member) (r : Room) : Room × Bool := (setMem r id f, hasId r id && mayToB r n id act a)
theorem setMem_at {r : Room} {id : Int} {f : Member → Member} {k : Nat} {m : Member} (h : idxP (idIs id) r.members = (k : Int)) (hk : r.members[k]? = some m) : setMem r id f = { r with members := r.members.set k (f m) } := by
  simp [setMem, idx_find h hk, h]
set_option maxHeartbeats 4000000 in
theorem mute1_c (u : Int) (w : World) {b1 : Nat} (h1 : w.cell? ⟨b1, 0, none⟩ = some (.int .i64 u)) :
    TurnsM Tryz.prog 42 #[.pointer (some ⟨b1, 0, none⟩)] (fun m => { m with quiet := u }) w := by
  intro ms k m b c F w1 W L hb hS hx
  show Calls Tryz.prog 42 #[.pointer (some ⟨b, k * 4, none⟩), .pointer (some ⟨b1, 0, none⟩)] W _
  have k1 := cell_below (below_step hb hS.below) h1
  obtain ⟨hc, hf, hz⟩ := St.flatCell (d := memberD) rfl hS hx
  obtain ⟨d0, d1, d2, d3⟩ : W.cell? ⟨b, k * 4, none⟩ = some (.int .i64 m.id) ∧ W.cell? ⟨b, k * 4 + 1, none⟩ = some (.int .i64 m.role) ∧ W.cell? ⟨b, k * 4 + 2, none⟩ = some (.int .i64 m.since) ∧ W.cell? ⟨b, k * 4 + 3, none⟩ = some (.int .i64 m.quiet) := ⟨hc 0 _ rfl, hc 1 _ rfl, hc 2 _ rfl, hc 3 _ rfl⟩
  have HS := hide hS
  have HX := hide hx
  clear hc hS hx
  go_enter Tryz.func42, Tryz.ntmps42
  go_wp2_with fail
  refine bodyPost_end (v := .tuple #[]) (by simp [results, Tryz.results42, go_sem]) rfl ⟨rfl, ?_⟩
  exact St.setFlat (d := memberD) (j := 3) rfl HS.out HX.out (by omega) rfl rfl
set_option maxHeartbeats 4000000 in
theorem give1_c (u : Int) (w : World) {b1 : Nat} (h1 : w.cell? ⟨b1, 0, none⟩ = some (.int .i64 u)) :
    TurnsM Tryz.prog 43 #[.pointer (some ⟨b1, 0, none⟩)] (fun m => { m with role := u }) w := by
  intro ms k m b c F w1 W L hb hS hx
  show Calls Tryz.prog 43 #[.pointer (some ⟨b, k * 4, none⟩), .pointer (some ⟨b1, 0, none⟩)] W _
  have k1 := cell_below (below_step hb hS.below) h1
  obtain ⟨hc, hf, hz⟩ := St.flatCell (d := memberD) rfl hS hx
  obtain ⟨d0, d1, d2, d3⟩ : W.cell? ⟨b, k * 4, none⟩ = some (.int .i64 m.id) ∧ W.cell? ⟨b, k * 4 + 1, none⟩ = some (.int .i64 m.role) ∧ W.cell? ⟨b, k * 4 + 2, none⟩ = some (.int .i64 m.since) ∧ W.cell? ⟨b, k * 4 + 3, none⟩ = some (.int .i64 m.quiet) := ⟨hc 0 _ rfl, hc 1 _ rfl, hc 2 _ rfl, hc 3 _ rfl⟩
  have HS := hide hS
  have HX := hide hx
  clear hc hS hx
  go_enter Tryz.func43, Tryz.ntmps43
  go_wp2_with fail
  refine bodyPost_end (v := .tuple #[]) (by simp [results, Tryz.results43, go_sem]) rfl ⟨rfl, ?_⟩
  exact St.setFlat (d := memberD) (j := 1) rfl HS.out HX.out (by omega) rfl rfl
set_option maxHeartbeats 8000000 in
set_option maxRecDepth 100000 in
theorem withMember1_c (g : Nat) (caps : Array Value) (f : Member → Member) (n id act a : Int) (w : World) {b1 b2 b3 b4 b5 : Nat} (h1 : w.cell? ⟨b1, 0, none⟩ = some (.int .i64 id)) (h2 : w.cell? ⟨b2, 0, none⟩ = some (.int .i64 n)) (h3 : w.cell? ⟨b3, 0, none⟩ = some (.int .i64 act)) (h4 : w.cell? ⟨b4, 0, none⟩ = some (.int .i64 a)) (h5 : w.cell? ⟨b5, 0, none⟩ = some (.func (.func g) #[] caps))
    (eg : ∀ args w, (callFunc g args).run Tryz.prog w = .ok (.enter g args) w) (hu : TurnsM Tryz.prog g caps f w) :
    TurnsS Tryz.prog roomD 28 79 #[.pointer (some ⟨b1, 0, none⟩), .pointer (some ⟨b2, 0, none⟩), .pointer (some ⟨b3, 0, none⟩), .pointer (some ⟨b4, 0, none⟩), .pointer (some ⟨b5, 0, none⟩)] (fun r => validRoomB r = true) (wmF n id act a f) w := by
  intro x b F W L hS hv
  show Calls Tryz.prog 79 #[.pointer (some ⟨b, 0, none⟩), .pointer (some ⟨b1, 0, none⟩), .pointer (some ⟨b2, 0, none⟩), .pointer (some ⟨b3, 0, none⟩), .pointer (some ⟨b4, 0, none⟩), .pointer (some ⟨b5, 0, none⟩)] W _
  have k1 := cell_below hS.below h1
  have k2 := cell_below hS.below h2
  have k3 := cell_below hS.below h3
  have k4 := cell_below hS.below h4
  have k5 := cell_below hS.below h5
  have HS := hide hS
  have HB := hide (show Below w.heap.size w W from hS.below)
  have HTU := hide hu
  have HV := hide hv
  have HE := hide (And.intro h1 (And.intro h2 (And.intro h3 (And.intro h4 h5))))
  clear hS hv hu h1 h2 h3 h4 h5
  by_cases hi : hasId x id = true
  · have HI := hide hi
    by_cases hm : mayToB x n id act a = true
    · have HM := hide hm
      have hi2 := hi
      unfold hasId at hi2
      obtain ⟨k, m, hk, hlk, hx, hmn⟩ := idxP_found (of_decide_eq_true hi2)
      have HF := hide (setMem_at (f := f) hk hx)
      have HOK := hide (show (wmF n id act a f x).2 = true by simp [wmF, HI.out, HM.out])
      have HX := hide hx
      have hlt : (k : Int) < (x.members.length : Int) := by omega
      clear hi hm hi2 hx hmn
      go_enter Tryz.func79, Tryz.ntmps79
      go_wp2_with (first
        | (go_at_call 26
           refine (roomHas_c x b 0 id _ HS.out.boxRow).mono ?_
           rintro e w1 ⟨rfl, hb⟩
           rw [HI.out]
           have HS1 := hide (HS.out.by hb)
           have j1 := cell_below hb k1
           have j2 := cell_below hb k2
           have j3 := cell_below hb k3
           have j4 := cell_below hb k4
           have j5 := cell_below hb k5
           clear hb)
        | (go_at_call 45
           refine (mayTo_c x b 0 n id act a _ HS1.out.boxRow).mono ?_
           rintro e w2 ⟨rfl, hb⟩
           rw [HM.out]
           obtain ⟨A1, c1, A2, c2, A3, c3, F1, F2, F3, hO⟩ := (HS1.out.by hb).roomOpen
           have HO := hide hO
           obtain ⟨x0, x1, x2, x3⟩ := hO.at0.c4
           have xz := hO.at0.lt
           have i1 := cell_below hb j1
           have i5 := cell_below hb j5
           clear hb hO))
      have hA : ∃ q, A1 = some ⟨q, 0, none⟩ := by
        rcases flat_M (show SliceM (Dt.flat _ _ _ _) _ _ _ _ _ from HO.out.pull1.head) with ⟨h0, _⟩ | ⟨q, cap, cur, hv, _⟩
        · simp only [Value.slice.injEq] at h0; omega
        · simp only [Value.slice.injEq] at hv; exact ⟨q, hv.1⟩
      obtain ⟨q, rfl⟩ := hA
      have hlc : x.members.length ≤ c1 := by
        obtain ⟨A9, c9, hv, h2, h3, _⟩ := HO.out.pull1.toK
        simp only [Value.slice.injEq] at hv; omega
      go_region_held3 (fun w' : World => w'.cell? ⟨b5, 0, none⟩ = some (.func (.func g) #[] caps) ∧ w'.cell? ⟨b, 1, none⟩ = some (.slice (some ⟨q, 0, none⟩) x.members.length c1) ∧ w'.cell? ⟨b1, 0, none⟩ = some (.int .i64 id))
        (first | with_reducible exact ⟨i5, x1, i1⟩ | with_reducible exact ⟨m5, y1, m1⟩ | with_reducible exact ⟨n5, z1, n1⟩ | go_keep) (first
        | (go_at_call 30
           refine (roomAt_c x b 0 id _ (St.boxRow (St.roomShut (x := x) (w0 := w) (by (repeat (first | (with_reducible exact HO.out) | (with_reducible apply St.alloc) | (with_reducible apply St.set0) | (with_reducible apply St.set1) | (with_reducible apply St.set2) | (with_reducible apply St.set3) | (with_reducible apply St.drew) | (with_reducible apply St.drewN))); all_goals (try (first | rfl | (simp; done))))))).mono ?_
           rintro e w3 ⟨rfl, hb⟩
           rw [hk]
           have HO3 := hide (St.by (show St w _ _ by (repeat (first | (with_reducible exact HO.out) | (with_reducible apply St.alloc) | (with_reducible apply St.set0) | (with_reducible apply St.set1) | (with_reducible apply St.set2) | (with_reducible apply St.set3) | (with_reducible apply St.drew) | (with_reducible apply St.drewN))); all_goals (try (first | rfl | (simp; done)))) hb)
           obtain ⟨y0, y1, y2, y3⟩ := HO3.out.at0.c4
           have m1 := cell_below hb (by first | exact i1 | go_simp)
           have m5 := cell_below hb (by first | exact i5 | go_simp)
           clear hb)
        | (go_at_fn g
           refine (HTU.out x.members k m q c1 F1 w _ _ (Below.refl _ _) (HO3.out.pull1) HX.out).mono ?_
           rintro e w4 ⟨rfl, hS4⟩
           have HS4 := hide (St.pull1 hS4)
           obtain ⟨z0, z1, z2, z3⟩ := HS4.out.at0.c4
           have n1 := cell_below HS4.out.below HE.out.1
           have n5 := cell_below HS4.out.below HE.out.2.2.2.2
           clear hS4))
      all_goals
        go_wp2_with fail
        go_ret
        have hw : (wmF n id act a f x).1 = { x with members := x.members.set k (f m) } := HF.out
        exact ⟨by rw [HOK.out]; rfl, _, St.roomShut (x := { x with members := x.members.set k (f m) }) HS4.out, fun _ => ⟨_, congrArg (fun y => boxP roomD 28 b y _) hw.symm⟩⟩
    · have HM := hide (show mayToB x n id act a = false by simpa using hm)
      have HOK := hide (show (wmF n id act a f x).2 = false by simp [wmF, HM.out])
      clear hi hm
      go_enter Tryz.func79, Tryz.ntmps79
      go_wp2_with (first
        | (go_at_call 26
           refine (roomHas_c x b 0 id _ HS.out.boxRow).mono ?_
           rintro e w1 ⟨rfl, hb⟩
           rw [HI.out]
           have HS1 := hide (HS.out.by hb)
           have j1 := cell_below hb k1
           have j2 := cell_below hb k2
           have j3 := cell_below hb k3
           have j4 := cell_below hb k4
           clear hb)
        | (go_at_call 45
           refine (mayTo_c x b 0 n id act a _ HS1.out.boxRow).mono ?_
           rintro e w2 ⟨rfl, hb⟩
           rw [HM.out]
           have HS2 := hide (HS1.out.by hb)
           clear hb))
      go_ret
      exact ⟨by rw [HOK.out]; rfl, _, HS2.out, fun h => by rw [HOK.out] at h; cases h⟩
  · have HI := hide (show hasId x id = false by simpa using hi)
    have HOK := hide (show (wmF n id act a f x).2 = false by simp [wmF, HI.out])
    clear hi
    go_enter Tryz.func79, Tryz.ntmps79
    go_wp2_with (
      go_at_call 26
      refine (roomHas_c x b 0 id _ HS.out.boxRow).mono ?_
      rintro e w1 ⟨rfl, hb⟩
      rw [HI.out]
      have HS1 := hide (HS.out.by hb)
      clear hb)
    go_ret
    exact ⟨by rw [HOK.out]; rfl, _, HS1.out, fun h => by rw [HOK.out] at h; cases h⟩
end Go.Proofs.YtglhepbcbildpaaGreat
