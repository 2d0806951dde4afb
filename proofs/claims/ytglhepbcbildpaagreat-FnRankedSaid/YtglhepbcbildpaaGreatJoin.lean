/- Somebody joins, is invited or banned: the program. -/
import Derived.Test.YtglhepbcbildpaaGreatSortFn
import Derived.Test.YtglhepbcbildpaaGreatWithout
import Derived.Test.YtglhepbcbildpaaGreatMayTo
import Derived.Test.YtglhepbcbildpaaGreatRoomPlain2
import Derived.Deep.RegionLaw
import Derived.Deep.DrawnRows
namespace Go.Proofs.YtglhepbcbildpaaGreat
open Go Go.RowKit Go.BigFrame
set_option linter.unusedVariables false
set_option linter.unusedSimpArgs false
attribute [local go_sem ↓] Go.wp_at_zero Go.wp_at_succ
def bannB (r : Room) (n : Int) : Bool := decide (0 ≤ idxP (banIs n) r.bans)
def invitedB (r : Room) (n a : Int) : Bool := decide (0 ≤ idxP (fun v : Invite => decide (v.id = n) && decide (a ≤ v.until_)) r.invites)
theorem members_of {r : Room} {n : Int} (h : hasId r n = false) : dropP (idIs n) r.members = r.members := dropP_none (by unfold hasId at h; simpa using h)
theorem bans_of {r : Room} {n : Int} (h : bannB r n = false) : dropP (banIs n) r.bans = r.bans := dropP_none (by unfold bannB at h; simpa using h)
theorem mem_ne {r : Room} {n : Int} (h : hasId r n = false) : ∀ x ∈ r.members, x.id ≠ n := by
  intro x hx e
  have : hasId r n = true := hasId_true.2 ⟨x, hx, e⟩
  rw [h] at this; cases this
theorem inv_ne {r : Room} {n : Int} : ∀ x ∈ dropP (invIs n) r.invites, x.id ≠ n := by
  intro x hx
  have := (List.mem_filter.1 hx).2
  simpa [invIs] using this
theorem ban_ne {r : Room} {n : Int} : ∀ x ∈ dropP (banIs n) r.bans, x.id ≠ n := by
  intro x hx
  have := (List.mem_filter.1 hx).2
  simpa [banIs] using this
def newI (n id u : Int) : Invite := ⟨id, n, u⟩
def newM (id a : Int) : Member := ⟨id, 1, a, 0⟩
def newB (id u : Int) : Ban := ⟨id, u⟩
def inviteF (n id u a : Int) (r : Room) : Room × Bool := ({ r with invites := insK Invite.id (newI n id u) (dropP (invIs id) r.invites) }, mayToB r n id 3 a && (!hasId r id && (!bannB r id && decide (a ≤ u))))
def joinF (id a : Int) (r : Room) : Room × Bool := ({ r with members := insK Member.id (newM id a) r.members, invites := dropP (invIs id) r.invites }, !hasId r id && (!bannB r id && (r.open_ || invitedB r id a)))
def banishF (n id u a : Int) (r : Room) : Room × Bool := ({ r with members := dropP (idIs id) r.members, invites := dropP (invIs id) r.invites, bans := insK Ban.id (newB id u) (dropP (banIs id) r.bans) }, mayToB r n id 6 a && decide (a ≤ u))
def inviteV (r : Room) (n id u a : Int) : Room := chR r (inviteF n id u a)
def inviteOk (r : Room) (n id u a : Int) : Bool := chOk r (inviteF n id u a)
def joinV (r : Room) (id a : Int) : Room := chR r (joinF id a)
def joinOk (r : Room) (id a : Int) : Bool := chOk r (joinF id a)
def banishV (r : Room) (n id u a : Int) : Room := chR r (banishF n id u a)
def banishOk (r : Room) (n id u a : Int) : Bool := chOk r (banishF n id u a)
theorem few_without {r : Room} (h : validRoomB r = true) (n : Int) : (dropP (idIs n) r.members).length ≤ 32 ∧ (dropP (invIs n) r.invites).length ≤ 16 ∧ (dropP (banIs n) r.bans).length ≤ 16 := by
  have hV := valid_iff.1 h
  exact ⟨Nat.le_trans (dropP_le _ _) hV.m32, Nat.le_trans (dropP_le _ _) hV.i16, Nat.le_trans (dropP_le _ _) hV.b16⟩
set_option maxHeartbeats 16000000 in
set_option maxRecDepth 100000 in
theorem inviteTo1_c (n id u a : Int) (w : World) {b1 b2 b3 b4 : Nat} (h1 : w.cell? ⟨b1, 0, none⟩ = some (.int .i64 n)) (h2 : w.cell? ⟨b2, 0, none⟩ = some (.int .i64 id)) (h3 : w.cell? ⟨b3, 0, none⟩ = some (.int .i64 a)) (h4 : w.cell? ⟨b4, 0, none⟩ = some (.int .i64 u)) :
    TurnsS Tryz.prog roomD 28 48 #[.pointer (some ⟨b1, 0, none⟩), .pointer (some ⟨b2, 0, none⟩), .pointer (some ⟨b3, 0, none⟩), .pointer (some ⟨b4, 0, none⟩)] (fun r => validRoomB r = true) (inviteF n id u a) w := by
  intro x b F W L hS hv
  show Calls Tryz.prog 48 #[.pointer (some ⟨b, 0, none⟩), .pointer (some ⟨b1, 0, none⟩), .pointer (some ⟨b2, 0, none⟩), .pointer (some ⟨b3, 0, none⟩), .pointer (some ⟨b4, 0, none⟩)] W _
  have k1 := cell_below hS.below h1
  have kz1 := World.block_lt_of_cell? w _ h1
  have k2 := cell_below hS.below h2
  have kz2 := World.block_lt_of_cell? w _ h2
  have k3 := cell_below hS.below h3
  have kz3 := World.block_lt_of_cell? w _ h3
  have k4 := cell_below hS.below h4
  have kz4 := World.block_lt_of_cell? w _ h4
  have hge := hS.headG b hS.head.mem
  have HE := hide (show w.cell? ⟨b1, 0, none⟩ = some (.int .i64 n) ∧ w.cell? ⟨b2, 0, none⟩ = some (.int .i64 id) ∧ w.cell? ⟨b3, 0, none⟩ = some (.int .i64 a) ∧ w.cell? ⟨b4, 0, none⟩ = some (.int .i64 u) from ⟨h1, h2, h3, h4⟩)
  have HS := hide hS
  have HV := hide hv
  have HFE := hide (fewR_of hv)
  have HFW := hide (few_without hv id)
  clear hS hv h1 h2 h3 h4
  by_cases c0 : mayToB x n id 3 a = true
  · have HM := hide c0
    clear c0
    by_cases c1 : hasId x id = false
    · have HH := hide c1
      clear c1
      by_cases c2 : bannB x id = false
      · have HBN := hide c2
        clear c2
        by_cases c3 : decide (a ≤ u) = true
        · have HU := hide c3
          have hua : decide (u < a) = false := decide_eq_false (by have := of_decide_eq_true c3; omega)
          clear c3
          have HOK := hide (show (inviteF n id u a x).2 = true by simp [inviteF, HM.out, HH.out, HBN.out, HU.out])
          go_enter Tryz.func48, Tryz.ntmps48
          go_wp2_with (first
            | (go_at_call 45
               refine (mayTo_c x b 0 n id 3 a _ HS.out.boxRow).mono ?_
               rintro e w1 ⟨rfl, hb⟩
               rw [HM.out]
               have HS1 := hide (HS.out.by hb)
               have j1 := cell_below hb k1
               have j2 := cell_below hb k2
               have j3 := cell_below hb k3
               have j4 := cell_below hb k4
               clear hb)
            | (go_at_call 26
               refine (roomHas_c x b 0 id _ HS1.out.boxRow).mono ?_
               rintro e w2 ⟨rfl, hb⟩
               rw [HH.out]
               have HS2 := hide (HS1.out.by hb)
               have i1 := cell_below hb j1
               have i2 := cell_below hb j2
               have i3 := cell_below hb j3
               have i4 := cell_below hb j4
               clear hb)
            | (go_at_call 27
               refine (roomBan_c x b 0 id _ HS2.out.boxRow).mono ?_
               rintro e w3 ⟨rfl, hb⟩
               rw [show decide (0 ≤ idxP (banIs id) x.bans) = _ from HBN.out]
               have HS3 := hide (HS2.out.by hb)
               have h1 := cell_below hb i1
               have h2 := cell_below hb i2
               have h3 := cell_below hb i3
               have h4 := cell_below hb i4
               clear hb)
            | (go_at_call 28
               refine (without_c x id b F w _ L HS3.out HFE.out).mono ?_
               rintro e w8 ⟨rfl, F8, hS⟩
               obtain ⟨A1, c1, A2, c2, A3, c3, G1, G2, G3, hO⟩ := hS.roomOpen
               have HO := hide hO
               obtain ⟨x0, x1, x2, x3⟩ := hO.at0.c4
               have xf := hO.at0.frozen
               have xz := hO.at0.lt
               have n1 := cell_below HO.out.below HE.out.1
               have n2 := cell_below HO.out.below HE.out.2.1
               have n3 := cell_below HO.out.below HE.out.2.2.1
               have n4 := cell_below HO.out.below HE.out.2.2.2
               clear hS hO))
          have hne : ∀ q, q < w.heap.size → ¬ q = b ∧ ¬ b = q := fun q hq => by omega
          obtain ⟨ne1, nf1⟩ := hne b1 kz1
          obtain ⟨ne2, nf2⟩ := hne b2 kz2
          obtain ⟨ne3, nf3⟩ := hne b3 kz3
          obtain ⟨ne4, nf4⟩ := hne b4 kz4
          have hl1 : (withoutR x id).invites.length ≤ 32 := by have := HFW.out; show (dropP _ _).length ≤ 32; omega
          go_region_law (
            refine step_app_st (d := inviteD) (w0 := w) rfl rfl (.tmp 35) (.tmp 40) 25 rfl (.agg #[.int .i64 0, .int .i64 0, .int .i64 0]) 24 Tryz.underlying25 infoInvite rfl (by omega) (by omega) (.slice A2 (withoutR x id).invites.length c2) (withoutR x id).invites G2 (by simp [Act.eval, Act.put]) w8.heap.size #[.int .i64 id, .int .i64 n, .int .i64 u] (by (repeat (first | (with_reducible exact HO.out.pull2) | (with_reducible apply St.alloc) | (with_reducible apply St.set0) | (with_reducible apply St.set1) | (with_reducible apply St.set2) | (with_reducible apply St.set3) | (with_reducible apply St.drew) | (with_reducible apply St.drewN))); all_goals (try (first | rfl | (simp; done)))) 1 (by simp [Act.eval, Act.put]) (newI n id u) rfl (by omega) ?_
            intro g cap w9 F9 hS
            have HS9 := hide hS
            obtain ⟨z0, z1, z2, z3⟩ := hS.at1.c4
            have zf := hS.at1.frozen
            have zz := hS.at1.lt
            clear hS)
          all_goals
            go_wp2_with (
              go_at_call 29
              refine (roomSort_c { withoutR x id with invites := (withoutR x id).invites ++ [newI n id u] } b _ w _ L (St.roomShut (x := { withoutR x id with invites := (withoutR x id).invites ++ [newI n id u] }) (St.push2 (show St w _ (own inviteD 36 (.slice (some ⟨g, 0, none⟩) ((withoutR x id).invites.length + 1) cap) ((withoutR x id).invites ++ [newI n id u]) F9 :: _) from by (repeat (first | (with_reducible exact HS9.out) | (with_reducible apply St.alloc) | (with_reducible apply St.set0) | (with_reducible apply St.set1) | (with_reducible apply St.set2) | (with_reducible apply St.set3) | (with_reducible apply St.drew) | (with_reducible apply St.drewN))); all_goals (try (first | rfl | (simp; done)))))) ?hf1).mono ?_
              case hf1 =>
                have := HFW.out
                simp only [withoutR, List.length_append, List.length_cons, List.length_nil]
                omega
              rintro e wA ⟨rfl, s1, s2, s3, FA, p1, o1, p2, o2, p3, o3, hS⟩
              have HSA := hide hS
              have HPA := hide (And.intro p1 (And.intro o1 (And.intro p2 (And.intro o2 (And.intro p3 o3)))))
              clear hS p1 o1 p2 o2 p3 o3)
            go_ret
            obtain ⟨p1, o1, p2, o2, p3, o3⟩ := HPA.out
            have hV := valid_iff.1 HV.out
            have e1 : s1 = x.members := sort_same hV.mp (by have h := p1; rwa [show (withoutR x id).members = x.members from members_of HH.out] at h) o1
            have e2 : s2 = insK Invite.id (newI n id u) (dropP (invIs id) x.invites) := ins_uniq (hV.ip.filter _) inv_ne p2 o2
            have e3 : s3 = x.bans := sort_same hV.bp (by have h := p3; rwa [show (withoutR x id).bans = x.bans from bans_of HBN.out] at h) o3
            exact ⟨by rw [HOK.out]; rfl, _, HSA.out, fun _ => ⟨_, congrArg (fun y => boxP roomD 28 b y _) (show _ = (inviteF n id u a x).1 by rw [e1, e2, e3]; rfl)⟩⟩
        · have HU := hide (show decide (a ≤ u) = false by simpa using c3)
          have hua : decide (u < a) = true := decide_eq_true (by have h9 := HU.out; rw [decide_eq_false_iff_not] at h9; omega)
          have HOK := hide (show (inviteF n id u a x).2 = false by simp [inviteF, HU.out])
          clear c3
          go_enter Tryz.func48, Tryz.ntmps48
          go_wp2_with (first
            | (go_at_call 45
               refine (mayTo_c x b 0 n id 3 a _ HS.out.boxRow).mono ?_
               rintro e w1 ⟨rfl, hb⟩
               rw [HM.out]
               have HS1 := hide (HS.out.by hb)
               have j1 := cell_below hb k1
               have j2 := cell_below hb k2
               have j3 := cell_below hb k3
               have j4 := cell_below hb k4
               clear hb)
            | (go_at_call 26
               refine (roomHas_c x b 0 id _ HS1.out.boxRow).mono ?_
               rintro e w2 ⟨rfl, hb⟩
               rw [HH.out]
               have HS2 := hide (HS1.out.by hb)
               have i1 := cell_below hb j1
               have i2 := cell_below hb j2
               have i3 := cell_below hb j3
               have i4 := cell_below hb j4
               clear hb)
            | (go_at_call 27
               refine (roomBan_c x b 0 id _ HS2.out.boxRow).mono ?_
               rintro e w3 ⟨rfl, hb⟩
               rw [show decide (0 ≤ idxP (banIs id) x.bans) = _ from HBN.out]
               have HS3 := hide (HS2.out.by hb)
               have h1 := cell_below hb i1
               have h2 := cell_below hb i2
               have h3 := cell_below hb i3
               have h4 := cell_below hb i4
               clear hb))
          go_ret
          exact ⟨by rw [HOK.out]; rfl, _, HS3.out, fun h => by rw [HOK.out] at h; cases h⟩
      · have HBN := hide (show bannB x id = true by simpa using c2)
        have HOK := hide (show (inviteF n id u a x).2 = false by simp [inviteF, HBN.out])
        clear c2
        go_enter Tryz.func48, Tryz.ntmps48
        go_wp2_with (first
          | (go_at_call 45
             refine (mayTo_c x b 0 n id 3 a _ HS.out.boxRow).mono ?_
             rintro e w1 ⟨rfl, hb⟩
             rw [HM.out]
             have HS1 := hide (HS.out.by hb)
             have j1 := cell_below hb k1
             have j2 := cell_below hb k2
             have j3 := cell_below hb k3
             have j4 := cell_below hb k4
             clear hb)
          | (go_at_call 26
             refine (roomHas_c x b 0 id _ HS1.out.boxRow).mono ?_
             rintro e w2 ⟨rfl, hb⟩
             rw [HH.out]
             have HS2 := hide (HS1.out.by hb)
             have i1 := cell_below hb j1
             have i2 := cell_below hb j2
             have i3 := cell_below hb j3
             have i4 := cell_below hb j4
             clear hb)
          | (go_at_call 27
             refine (roomBan_c x b 0 id _ HS2.out.boxRow).mono ?_
             rintro e w3 ⟨rfl, hb⟩
             rw [show decide (0 ≤ idxP (banIs id) x.bans) = _ from HBN.out]
             have HS3 := hide (HS2.out.by hb)
             have h1 := cell_below hb i1
             have h2 := cell_below hb i2
             have h3 := cell_below hb i3
             have h4 := cell_below hb i4
             clear hb))
        go_ret
        exact ⟨by rw [HOK.out]; rfl, _, HS3.out, fun h => by rw [HOK.out] at h; cases h⟩
    · have HH := hide (show hasId x id = true by simpa using c1)
      have HOK := hide (show (inviteF n id u a x).2 = false by simp [inviteF, HH.out])
      clear c1
      go_enter Tryz.func48, Tryz.ntmps48
      go_wp2_with (first
        | (go_at_call 45
           refine (mayTo_c x b 0 n id 3 a _ HS.out.boxRow).mono ?_
           rintro e w1 ⟨rfl, hb⟩
           rw [HM.out]
           have HS1 := hide (HS.out.by hb)
           have j1 := cell_below hb k1
           have j2 := cell_below hb k2
           have j3 := cell_below hb k3
           have j4 := cell_below hb k4
           clear hb)
        | (go_at_call 26
           refine (roomHas_c x b 0 id _ HS1.out.boxRow).mono ?_
           rintro e w2 ⟨rfl, hb⟩
           rw [HH.out]
           have HS2 := hide (HS1.out.by hb)
           have i1 := cell_below hb j1
           have i2 := cell_below hb j2
           have i3 := cell_below hb j3
           have i4 := cell_below hb j4
           clear hb))
      go_ret
      exact ⟨by rw [HOK.out]; rfl, _, HS2.out, fun h => by rw [HOK.out] at h; cases h⟩
  · have HM := hide (show mayToB x n id 3 a = false by simpa using c0)
    have HOK := hide (show (inviteF n id u a x).2 = false by simp [inviteF, HM.out])
    clear c0
    go_enter Tryz.func48, Tryz.ntmps48
    go_wp2_with (first
      | (go_at_call 45
         refine (mayTo_c x b 0 n id 3 a _ HS.out.boxRow).mono ?_
         rintro e w1 ⟨rfl, hb⟩
         rw [HM.out]
         have HS1 := hide (HS.out.by hb)
         have j1 := cell_below hb k1
         have j2 := cell_below hb k2
         have j3 := cell_below hb k3
         have j4 := cell_below hb k4
         clear hb))
    go_ret
    exact ⟨by rw [HOK.out]; rfl, _, HS1.out, fun h => by rw [HOK.out] at h; cases h⟩
set_option maxHeartbeats 16000000 in
set_option maxRecDepth 100000 in
theorem banMember1_c (n id u a : Int) (w : World) {b1 b2 b3 b4 : Nat} (h1 : w.cell? ⟨b1, 0, none⟩ = some (.int .i64 n)) (h2 : w.cell? ⟨b2, 0, none⟩ = some (.int .i64 id)) (h3 : w.cell? ⟨b3, 0, none⟩ = some (.int .i64 a)) (h4 : w.cell? ⟨b4, 0, none⟩ = some (.int .i64 u)) :
    TurnsS Tryz.prog roomD 28 44 #[.pointer (some ⟨b1, 0, none⟩), .pointer (some ⟨b2, 0, none⟩), .pointer (some ⟨b3, 0, none⟩), .pointer (some ⟨b4, 0, none⟩)] (fun r => validRoomB r = true) (banishF n id u a) w := by
  intro x b F W L hS hv
  show Calls Tryz.prog 44 #[.pointer (some ⟨b, 0, none⟩), .pointer (some ⟨b1, 0, none⟩), .pointer (some ⟨b2, 0, none⟩), .pointer (some ⟨b3, 0, none⟩), .pointer (some ⟨b4, 0, none⟩)] W _
  have k1 := cell_below hS.below h1
  have kz1 := World.block_lt_of_cell? w _ h1
  have k2 := cell_below hS.below h2
  have kz2 := World.block_lt_of_cell? w _ h2
  have k3 := cell_below hS.below h3
  have kz3 := World.block_lt_of_cell? w _ h3
  have k4 := cell_below hS.below h4
  have kz4 := World.block_lt_of_cell? w _ h4
  have hge := hS.headG b hS.head.mem
  have HE := hide (show w.cell? ⟨b1, 0, none⟩ = some (.int .i64 n) ∧ w.cell? ⟨b2, 0, none⟩ = some (.int .i64 id) ∧ w.cell? ⟨b3, 0, none⟩ = some (.int .i64 a) ∧ w.cell? ⟨b4, 0, none⟩ = some (.int .i64 u) from ⟨h1, h2, h3, h4⟩)
  have HS := hide hS
  have HV := hide hv
  have HFE := hide (fewR_of hv)
  have HFW := hide (few_without hv id)
  clear hS hv h1 h2 h3 h4
  by_cases c0 : mayToB x n id 6 a = true
  · have HM := hide c0
    clear c0
    by_cases c1 : decide (a ≤ u) = true
    · have HU := hide c1
      have hua : decide (u < a) = false := decide_eq_false (by have := of_decide_eq_true c1; omega)
      clear c1
      have HOK := hide (show (banishF n id u a x).2 = true by simp [banishF, HM.out, HU.out])
      go_enter Tryz.func44, Tryz.ntmps44
      go_wp2_with (first
        | (go_at_call 45
           refine (mayTo_c x b 0 n id 6 a _ HS.out.boxRow).mono ?_
           rintro e w1 ⟨rfl, hb⟩
           rw [HM.out]
           have HS1 := hide (HS.out.by hb)
           have j1 := cell_below hb k1
           have j2 := cell_below hb k2
           have j3 := cell_below hb k3
           have j4 := cell_below hb k4
           clear hb)
        | (go_at_call 28
           refine (without_c x id b F w _ L HS1.out HFE.out).mono ?_
           rintro e w8 ⟨rfl, F8, hS⟩
           obtain ⟨A1, c1, A2, c2, A3, c3, G1, G2, G3, hO⟩ := hS.roomOpen
           have HO := hide hO
           obtain ⟨x0, x1, x2, x3⟩ := hO.at0.c4
           have xf := hO.at0.frozen
           have xz := hO.at0.lt
           have n1 := cell_below HO.out.below HE.out.1
           have n2 := cell_below HO.out.below HE.out.2.1
           have n3 := cell_below HO.out.below HE.out.2.2.1
           have n4 := cell_below HO.out.below HE.out.2.2.2
           clear hS hO))
      have hne : ∀ q, q < w.heap.size → ¬ q = b ∧ ¬ b = q := fun q hq => by omega
      obtain ⟨ne1, nf1⟩ := hne b1 kz1
      obtain ⟨ne2, nf2⟩ := hne b2 kz2
      obtain ⟨ne3, nf3⟩ := hne b3 kz3
      obtain ⟨ne4, nf4⟩ := hne b4 kz4
      have hl1 : (withoutR x id).bans.length ≤ 32 := by have := HFW.out; show (dropP _ _).length ≤ 32; omega
      go_region_law (
        refine step_app_st (d := banD) (w0 := w) rfl rfl (.tmp 25) (.tmp 29) 26 rfl (.agg #[.int .i64 0, .int .i64 0]) 16 Tryz.underlying26 infoBan rfl (by omega) (by omega) (.slice A3 (withoutR x id).bans.length c3) (withoutR x id).bans G3 (by simp [Act.eval, Act.put]) w8.heap.size #[.int .i64 id, .int .i64 u] (by (repeat (first | (with_reducible exact HO.out.pull3) | (with_reducible apply St.alloc) | (with_reducible apply St.set0) | (with_reducible apply St.set1) | (with_reducible apply St.set2) | (with_reducible apply St.set3) | (with_reducible apply St.drew) | (with_reducible apply St.drewN))); all_goals (try (first | rfl | (simp; done)))) 1 (by simp [Act.eval, Act.put]) (newB id u) rfl (by omega) ?_
        intro g cap w9 F9 hS
        have HS9 := hide hS
        obtain ⟨z0, z1, z2, z3⟩ := hS.at1.c4
        have zf := hS.at1.frozen
        have zz := hS.at1.lt
        clear hS)
      all_goals
        go_wp2_with (
          go_at_call 29
          refine (roomSort_c { withoutR x id with bans := (withoutR x id).bans ++ [newB id u] } b _ w _ L (St.roomShut (x := { withoutR x id with bans := (withoutR x id).bans ++ [newB id u] }) (St.push3 (show St w _ (own banD 38 (.slice (some ⟨g, 0, none⟩) ((withoutR x id).bans.length + 1) cap) ((withoutR x id).bans ++ [newB id u]) F9 :: _) from by (repeat (first | (with_reducible exact HS9.out) | (with_reducible apply St.alloc) | (with_reducible apply St.set0) | (with_reducible apply St.set1) | (with_reducible apply St.set2) | (with_reducible apply St.set3) | (with_reducible apply St.drew) | (with_reducible apply St.drewN))); all_goals (try (first | rfl | (simp; done)))))) ?hf1).mono ?_
          case hf1 =>
            have := HFW.out
            simp only [withoutR, List.length_append, List.length_cons, List.length_nil]
            omega
          rintro e wA ⟨rfl, s1, s2, s3, FA, p1, o1, p2, o2, p3, o3, hS⟩
          have HSA := hide hS
          have HPA := hide (And.intro p1 (And.intro o1 (And.intro p2 (And.intro o2 (And.intro p3 o3)))))
          clear hS p1 o1 p2 o2 p3 o3)
        go_ret
        obtain ⟨p1, o1, p2, o2, p3, o3⟩ := HPA.out
        have hV := valid_iff.1 HV.out
        have e1 : s1 = dropP (idIs id) x.members := sort_same (hV.mp.filter _) p1 o1
        have e2 : s2 = dropP (invIs id) x.invites := sort_same (hV.ip.filter _) p2 o2
        have e3 : s3 = insK Ban.id (newB id u) (dropP (banIs id) x.bans) := ins_uniq (hV.bp.filter _) ban_ne p3 o3
        exact ⟨by rw [HOK.out]; rfl, _, HSA.out, fun _ => ⟨_, congrArg (fun y => boxP roomD 28 b y _) (show _ = (banishF n id u a x).1 by rw [e1, e2, e3]; rfl)⟩⟩
    · have HU := hide (show decide (a ≤ u) = false by simpa using c1)
      have hua : decide (u < a) = true := decide_eq_true (by have h9 := HU.out; rw [decide_eq_false_iff_not] at h9; omega)
      have HOK := hide (show (banishF n id u a x).2 = false by simp [banishF, HU.out])
      clear c1
      go_enter Tryz.func44, Tryz.ntmps44
      go_wp2_with (first
        | (go_at_call 45
           refine (mayTo_c x b 0 n id 6 a _ HS.out.boxRow).mono ?_
           rintro e w1 ⟨rfl, hb⟩
           rw [HM.out]
           have HS1 := hide (HS.out.by hb)
           have j1 := cell_below hb k1
           have j2 := cell_below hb k2
           have j3 := cell_below hb k3
           have j4 := cell_below hb k4
           clear hb))
      go_ret
      exact ⟨by rw [HOK.out]; rfl, _, HS1.out, fun h => by rw [HOK.out] at h; cases h⟩
  · have HM := hide (show mayToB x n id 6 a = false by simpa using c0)
    have HOK := hide (show (banishF n id u a x).2 = false by simp [banishF, HM.out])
    clear c0
    go_enter Tryz.func44, Tryz.ntmps44
    go_wp2_with (first
      | (go_at_call 45
         refine (mayTo_c x b 0 n id 6 a _ HS.out.boxRow).mono ?_
         rintro e w1 ⟨rfl, hb⟩
         rw [HM.out]
         have HS1 := hide (HS.out.by hb)
         have j1 := cell_below hb k1
         have j2 := cell_below hb k2
         have j3 := cell_below hb k3
         have j4 := cell_below hb k4
         clear hb))
    go_ret
    exact ⟨by rw [HOK.out]; rfl, _, HS1.out, fun h => by rw [HOK.out] at h; cases h⟩
set_option maxHeartbeats 4000000 in
set_option maxRecDepth 100000 in
theorem inviteTo_c (r : Room) (n id u a : Int) (v1 v2 v3 : Value) (w : World) (h1 : SliceK memberD w v1 r.members) (h2 : SliceK inviteD w v2 r.invites) (h3 : SliceK banD w v3 r.bans) :
    Calls Tryz.prog 19 #[.agg #[.bool r.open_, v1, v2, v3], .int .i64 n, .int .i64 id, .int .i64 u, .int .i64 a] w (RetElem2 roomD w (inviteV r n id u a) (inviteOk r n id u a)) := by
  show Calls Tryz.prog 19 #[.agg #[.bool r.open_, v1, v2, v3], .int .i64 n, .int .i64 id, .int .i64 u, .int .i64 a] w (RetElem2 roomD w (chR r (inviteF n id u a)) (chOk r (inviteF n id u a)))
  obtain ⟨A1, c1, rfl⟩ := h1.shape
  obtain ⟨A2, c2, rfl⟩ := h2.shape
  obtain ⟨A3, c3, rfl⟩ := h3.shape
  have H1 := hide h1
  have H2 := hide h2
  have H3 := hide h3
  clear h1 h2 h3
  have HS0 := hide (show St w ((((((w.alloc (.cells #[.bool r.open_, .slice A1 r.members.length c1, .slice A2 r.invites.length c2, .slice A3 r.bans.length c3] 28)).alloc (.cells #[.int .i64 n] 2)).alloc (.cells #[.int .i64 id] 2)).alloc (.cells #[.int .i64 u] 2)).alloc (.cells #[.int .i64 a] 2)).alloc (.cells #[.bool false, .slice none 0 0, .slice none 0 0, .slice none 0 0] 28)) [blk (w.heap.size + 1 + 1 + 1 + 1 + 1) #[.bool false, .slice none 0 0, .slice none 0 0, .slice none 0 0] 28, blk (w.heap.size + 1 + 1 + 1 + 1) #[.int .i64 a] 2, blk (w.heap.size + 1 + 1 + 1) #[.int .i64 u] 2, blk (w.heap.size + 1 + 1) #[.int .i64 id] 2, blk (w.heap.size + 1) #[.int .i64 n] 2, blk w.heap.size #[.bool r.open_, .slice A1 r.members.length c1, .slice A2 r.invites.length c2, .slice A3 r.bans.length c3] 28] from (((((((St.start w).alloc rfl).alloc (by simp)).alloc (by simp)).alloc (by simp)).alloc (by simp)).alloc (by simp)))
  have HE0 := hide (St.at3 HS0.out.drop).c1
  have HE1 := hide (St.at3 HS0.out).c1
  have HE2 := hide (St.at2 HS0.out).c1
  have HE3 := hide (St.at1 HS0.out).c1
  have eg2 := enters_of Tryz.func48 (by kernel_rfl) rfl
  go_enter Tryz.func19, Tryz.ntmps19
  go_wp2_with (
    go_at_call 22
    refine (changed_c _ _ (inviteF n id u a) r _ _ _ _ (H1.out.below HS0.out.below) (H2.out.below HS0.out.below) (H3.out.below HS0.out.below) eg2 (inviteTo1_c n id u a _ HE0.out HE1.out HE3.out HE2.out)).mono ?_
    rintro e w1 he
    obtain ⟨cs, F, rfl, hK, hb, hS⟩ := HS0.out.elem2 he
    obtain ⟨u1, u2, u3, rfl, k1, k2, k3⟩ := room_K hK
    obtain ⟨G1, g1, rfl⟩ := k1.shape
    obtain ⟨G2, g2, rfl⟩ := k2.shape
    obtain ⟨G3, g3, rfl⟩ := k3.shape
    have HS1 := hide hS
    obtain ⟨x1_0, x1_1, x1_2, x1_3⟩ := hS.at1.c4
    have xf1 := hS.at1.frozen
    have xz1 := hS.at1.lt
    clear hK k1 k2 k3 hb hS he)
  refine bodyPost_ret (v := .tuple #[.agg #[.bool (chR r (inviteF n id u a)).open_, .slice G1 (chR r (inviteF n id u a)).members.length g1, .slice G2 (chR r (inviteF n id u a)).invites.length g2, .slice G3 (chR r (inviteF n id u a)).bans.length g3], .bool (chOk r (inviteF n id u a))]) (by simp [results, Tryz.results19, go_sem, x1_0, x1_1, x1_2, x1_3, xf1, xz1]) rfl ?_
  exact St.ret2 (cs := [.bool (chR r (inviteF n id u a)).open_, .slice G1 (chR r (inviteF n id u a)).members.length g1, .slice G2 (chR r (inviteF n id u a)).invites.length g2, .slice G3 (chR r (inviteF n id u a)).bans.length g3]) (F := F) (by (repeat (first | (with_reducible exact HS1.out) | (with_reducible apply St.alloc) | (with_reducible apply St.set0) | (with_reducible apply St.set1) | (with_reducible apply St.set2) | (with_reducible apply St.set3) | (with_reducible apply St.drew) | (with_reducible apply St.drewN))); all_goals (try (first | rfl | (simp; done)))) rfl
set_option maxHeartbeats 4000000 in
set_option maxRecDepth 100000 in
theorem banMember_c (r : Room) (n id u a : Int) (v1 v2 v3 : Value) (w : World) (h1 : SliceK memberD w v1 r.members) (h2 : SliceK inviteD w v2 r.invites) (h3 : SliceK banD w v3 r.bans) :
    Calls Tryz.prog 16 #[.agg #[.bool r.open_, v1, v2, v3], .int .i64 n, .int .i64 id, .int .i64 u, .int .i64 a] w (RetElem2 roomD w (banishV r n id u a) (banishOk r n id u a)) := by
  show Calls Tryz.prog 16 #[.agg #[.bool r.open_, v1, v2, v3], .int .i64 n, .int .i64 id, .int .i64 u, .int .i64 a] w (RetElem2 roomD w (chR r (banishF n id u a)) (chOk r (banishF n id u a)))
  obtain ⟨A1, c1, rfl⟩ := h1.shape
  obtain ⟨A2, c2, rfl⟩ := h2.shape
  obtain ⟨A3, c3, rfl⟩ := h3.shape
  have H1 := hide h1
  have H2 := hide h2
  have H3 := hide h3
  clear h1 h2 h3
  have HS0 := hide (show St w ((((((w.alloc (.cells #[.bool r.open_, .slice A1 r.members.length c1, .slice A2 r.invites.length c2, .slice A3 r.bans.length c3] 28)).alloc (.cells #[.int .i64 n] 2)).alloc (.cells #[.int .i64 id] 2)).alloc (.cells #[.int .i64 u] 2)).alloc (.cells #[.int .i64 a] 2)).alloc (.cells #[.bool false, .slice none 0 0, .slice none 0 0, .slice none 0 0] 28)) [blk (w.heap.size + 1 + 1 + 1 + 1 + 1) #[.bool false, .slice none 0 0, .slice none 0 0, .slice none 0 0] 28, blk (w.heap.size + 1 + 1 + 1 + 1) #[.int .i64 a] 2, blk (w.heap.size + 1 + 1 + 1) #[.int .i64 u] 2, blk (w.heap.size + 1 + 1) #[.int .i64 id] 2, blk (w.heap.size + 1) #[.int .i64 n] 2, blk w.heap.size #[.bool r.open_, .slice A1 r.members.length c1, .slice A2 r.invites.length c2, .slice A3 r.bans.length c3] 28] from (((((((St.start w).alloc rfl).alloc (by simp)).alloc (by simp)).alloc (by simp)).alloc (by simp)).alloc (by simp)))
  have HE0 := hide (St.at3 HS0.out.drop).c1
  have HE1 := hide (St.at3 HS0.out).c1
  have HE2 := hide (St.at2 HS0.out).c1
  have HE3 := hide (St.at1 HS0.out).c1
  have eg2 := enters_of Tryz.func44 (by kernel_rfl) rfl
  go_enter Tryz.func16, Tryz.ntmps16
  go_wp2_with (
    go_at_call 22
    refine (changed_c _ _ (banishF n id u a) r _ _ _ _ (H1.out.below HS0.out.below) (H2.out.below HS0.out.below) (H3.out.below HS0.out.below) eg2 (banMember1_c n id u a _ HE0.out HE1.out HE3.out HE2.out)).mono ?_
    rintro e w1 he
    obtain ⟨cs, F, rfl, hK, hb, hS⟩ := HS0.out.elem2 he
    obtain ⟨u1, u2, u3, rfl, k1, k2, k3⟩ := room_K hK
    obtain ⟨G1, g1, rfl⟩ := k1.shape
    obtain ⟨G2, g2, rfl⟩ := k2.shape
    obtain ⟨G3, g3, rfl⟩ := k3.shape
    have HS1 := hide hS
    obtain ⟨x1_0, x1_1, x1_2, x1_3⟩ := hS.at1.c4
    have xf1 := hS.at1.frozen
    have xz1 := hS.at1.lt
    clear hK k1 k2 k3 hb hS he)
  refine bodyPost_ret (v := .tuple #[.agg #[.bool (chR r (banishF n id u a)).open_, .slice G1 (chR r (banishF n id u a)).members.length g1, .slice G2 (chR r (banishF n id u a)).invites.length g2, .slice G3 (chR r (banishF n id u a)).bans.length g3], .bool (chOk r (banishF n id u a))]) (by simp [results, Tryz.results16, go_sem, x1_0, x1_1, x1_2, x1_3, xf1, xz1]) rfl ?_
  exact St.ret2 (cs := [.bool (chR r (banishF n id u a)).open_, .slice G1 (chR r (banishF n id u a)).members.length g1, .slice G2 (chR r (banishF n id u a)).invites.length g2, .slice G3 (chR r (banishF n id u a)).bans.length g3]) (F := F) (by (repeat (first | (with_reducible exact HS1.out) | (with_reducible apply St.alloc) | (with_reducible apply St.set0) | (with_reducible apply St.set1) | (with_reducible apply St.set2) | (with_reducible apply St.set3) | (with_reducible apply St.drew) | (with_reducible apply St.drewN))); all_goals (try (first | rfl | (simp; done)))) rfl
end Go.Proofs.YtglhepbcbildpaaGreat
