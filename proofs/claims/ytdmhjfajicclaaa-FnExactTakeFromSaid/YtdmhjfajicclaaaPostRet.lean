/- Parcels go back into a box: the program. -/
import Derived.Test.YtdmhjfajicclaaaPostCat
import Derived.Test.YtdmhjfajicclaaaAddBox
import Derived.Test.YtdmhjfajicclaaaParcels2
import Derived.Deep.RegionWith
import Derived.Deep.CutRange
namespace Go.Proofs.Ytdmhjfajicclaaa
open Go Go.RowKit Go.BigFrame
set_option linter.unusedVariables false
set_option linter.unusedSimpArgs false

def putB (ps : List Parcel) (lim : Int) (m : Box) : Box := fitB lim { m with held := ps ++ m.held }
def retBs (t : ByteArray) (ps : List Parcel) (lim : Int) (xs : List Box) : List Box :=
  match xs[lbI t xs]? with
  | some m => xs.set (lbI t xs) (putB ps lim m)
  | none => xs
def retF (t : ByteArray) (ps : List Parcel) (p : Post) : Post × Bool := ({ p with boxes := retBs t ps p.limit p.boxes }, hasT Box.token p.boxes t && parsOkB ps)
theorem retF_at {t : ByteArray} {ps : List Parcel} {p : Post} {i : Nat} {m : Box} (hr : RisesT Box.token p.boxes) (hl : isLbT Box.token p.boxes t i) (hm : p.boxes[i]? = some m) :
    (retF t ps p).1 = { p with boxes := p.boxes.take i ++ putB ps p.limit m :: p.boxes.drop (i + 1) } := by
  have hi : i = lbI t p.boxes := lb_uniq hl (lb_is hr)
  subst hi
  have h1 := (List.getElem?_eq_some_iff.1 hm).1
  show ({ p with boxes := retBs t ps p.limit p.boxes } : Post) = _
  unfold retBs
  rw [hm]
  simp only [Post.mk.injEq, true_and]
  rw [List.set_eq_take_append_cons_drop, if_pos h1]
theorem box_parts {lim : Int} {m : Box} (h : boxOkB lim m = true) : inB m.missed 0 1000000000 = true ∧ m.held.length ≤ 64 := by
  simp only [boxOkB, parsOkB, Bool.and_eq_true, decide_eq_true_eq] at h
  exact ⟨h.1.1.2, by have := h.1.2.1; omega⟩
theorem pars_len {ps : List Parcel} (h : parsOkB ps = true) : ps.length ≤ 64 := by
  simp only [parsOkB, Bool.and_eq_true, decide_eq_true_eq] at h
  have := h.1; omega
/-- The box at i goes back into the row, changed. -/
theorem St.boxBack {w0 w : World} {L : List Piece} {xs : List Box} {rs : List (Raw 4)} {Fs : List (List Nat)} {i : Nat} {y : Box} {A : Option Addr} {c : Nat} {G : List Nat}
    (h : St w0 w (own parcelD 68 (.slice A y.held.length c) y.held G :: heldsP boxD (xs.take i ++ xs.drop (i + 1)) (rs.take i ++ rs.drop (i + 1)) Fs :: L)) (hi : i < xs.length) (hl : rs.length = xs.length) :
    ∃ Fs', St w0 w (heldsP boxD (xs.take i ++ y :: xs.drop (i + 1)) (rs.set i (boxRaw y A y.held.length c)) Fs' :: L) := by
  have h5 : (rs.take i).length = (xs.take i).length := by rw [List.length_take, List.length_take, hl]
  rw [List.set_eq_take_append_cons_drop, if_pos (by omega)]
  exact St.heldIns (d := boxD) h.boxIn h5
set_option maxHeartbeats 8000000 in
set_option maxRecDepth 100000 in
theorem returnTo1_c (t : ByteArray) (ps : List Parcel) (A0 : Option Addr) (c0 : Nat) (w : World) {b1 b2 : Nat} (h1 : w.cell? ⟨b1, 0, none⟩ = some (.string t)) (h2 : w.cell? ⟨b2, 0, none⟩ = some (.slice A0 ps.length c0)) (hK : SliceK parcelD w (.slice A0 ps.length c0) ps) :
    TurnsX Try.prog postD 28 47 #[.pointer (some ⟨b1, 0, none⟩), .pointer (some ⟨b2, 0, none⟩)] (fun r => validPostB r = true) (retF t ps) w [] (fun _ X => X = []) := by
  intro x b F W L hS hv
  replace hS : St w W (boxP postD 28 b x F :: L) := hS
  show Calls Try.prog 47 #[.pointer (some ⟨b, 0, none⟩), .pointer (some ⟨b1, 0, none⟩), .pointer (some ⟨b2, 0, none⟩)] W _
  have hcap := cell_below hS.below h1
  have hcz := World.block_lt_of_cell? W _ hcap
  have hcap2 := cell_below hS.below h2
  have hcz2 := World.block_lt_of_cell? W _ hcap2
  simp only [] at hcz hcz2
  have HS := hide hS
  have HV := hide hv
  have HK := hide hK
  have hlen := (fewP_of hv).1
  have HR := hide (rises_valid hv)
  clear hS hv h1 h2 hK
  by_cases hi : hasT Box.token x.boxes t = true
  · have HI := hide hi
    by_cases hp : parsOkB ps = true
    · have HP := hide hp
      have HOK := hide (show (retF t ps x).2 = true by simp [retF, hi, hp])
      clear hi hp
      go_enter Try.func47, Try.ntmps47
      go_wp2_with (first
        | (go_at_call 32
           refine (postAt_c x b 0 t _ HS.out.boxRow HV.out).mono ?_
           rintro e w1 ⟨⟨i, hlb, rfl⟩, hb⟩
           rw [HI.out]
           have HLB := hide hlb
           have hib := hlb.1
           have hw1 : IntKind.i64.wrap ((i : Int) + 1) = (i : Int) + 1 := IntWalk.i64_in _ (by omega)
           obtain ⟨A, c, rs, F1, Fs, hrl, hO⟩ := (HS.out.by hb).postOpen
           rw [← hrl] at hO
           have HO := hide hO
           have HRL := hide hrl
           have hcap := cell_below hb hcap
           have hcap2 := cell_below hb hcap2
           have hc2 : b2 < w1.heap.size := World.block_lt_of_cell? w1 _ hcap2
           have HBW := hide hb
           (try clear x0 x1 xf xz)
           obtain ⟨x0, x1⟩ := hO.at0.c2
           have xf := hO.at0.frozen
           have xz := hO.at0.lt
           clear hlb hb hO hrl)
        | (go_at_call 48
           refine (parcelsOk_c ps _ _ (HK.out.below HO.out.below)).mono ?_
           rintro e w2 ⟨rfl, hb2⟩
           rw [HP.out]
           have HO2 := hide (HO.out.by hb2)
           have hcap2 := cell_below hb2 hcap2
           have hc2 : b2 < w2.heap.size := World.block_lt_of_cell? w2 _ hcap2
           (try clear x0 x1 xf xz)
           obtain ⟨x0, x1⟩ := (St.at0 HO2.out).c2
           have xf := (St.at0 HO2.out).frozen
           have xz := (St.at0 HO2.out).lt
           clear hb2))
      obtain ⟨m, hm, hmt⟩ := HLB.out.found HR.out HI.out
      have hil := (List.getElem?_eq_some_iff.1 hm).1
      have hrl := HRL.out
      obtain ⟨A3, c3, G3, Fs3, hr, hS3⟩ := (St.pull2 HO2.out).boxCut hm
      obtain ⟨⟨q, rfl⟩, -, -⟩ := St.hasBlk (d := rawD 4) rfl (St.pull1 HO2.out) hr
      have HQ := hide (show St w w2 (own parcelD 68 (.slice A3 m.held.length c3) m.held G3 :: own (rawD 4) 53 (.slice (some ⟨q, 0, none⟩) rs.length c) rs F1 :: heldsP boxD (x.boxes.take i ++ x.boxes.drop (i + 1)) (rs.take i ++ rs.drop (i + 1)) Fs3 :: blk b #[.int .i64 x.limit, .slice (some ⟨q, 0, none⟩) rs.length c] 28 :: L) from St.pull1 (St.pull3 hS3))
      have HRI := hide hr
      obtain ⟨q0, q1, q2, q3, qf, qz⟩ := (St.pull1 HQ.out).rawBox hr
      have HM := hide (And.intro hm hmt)
      obtain ⟨hm0, hm1⟩ := box_parts (boxes_ok HV.out m (List.mem_of_getElem? hm))
      have hpl := pars_len HP.out
      have hir : i < rs.length := by omega
      have hii : (i : Int) < (rs.length : Int) := by omega
      have hin : (0 : Int) ≤ (i : Int) := by omega
      have HLM := hide (show inB x.limit 1 64 = true from by have h := HV.out; simp only [validPostB, Bool.and_eq_true] at h; exact h.1.1)
      clear hm hmt hr hS3 hrl
      go_cut [37] from 20 to 37 (fun s37 w' => ∃ (A9 : Option Addr) (c9 : Nat) (F9 : List Nat), s37 = .pointer (some ⟨q, i * 4 + 3, none⟩) ∧ Hid (St w w' (own (rawD 4) 53 (.slice (some ⟨q, 0, none⟩) rs.length c) (rs.set i (boxRaw { m with held := ps ++ m.held } A9 (ps ++ m.held).length c9)) F1 :: own parcelD 68 (.slice A9 (ps ++ m.held).length c9) (ps ++ m.held) F9 :: heldsP boxD (x.boxes.take i ++ x.boxes.drop (i + 1)) (rs.take i ++ rs.drop (i + 1)) Fs3 :: blk b #[.int .i64 x.limit, .slice (some ⟨q, 0, none⟩) rs.length c] 28 :: L)))
      case first =>
        go_region_with (
          (go_at_call 49
           refine Calls.mono (concat_c ps m.held A0 A3 c0 c3 w2.heap.size G3 w _ (own (rawD 4) 53 (.slice (some ⟨q, 0, none⟩) rs.length c) rs F1 :: heldsP boxD (x.boxes.take i ++ x.boxes.drop (i + 1)) (rs.take i ++ rs.drop (i + 1)) Fs3 :: blk b #[.int .i64 x.limit, .slice (some ⟨q, 0, none⟩) rs.length c] 28 :: L) (by (repeat (first | (with_reducible exact HQ.out) | (with_reducible apply St.alloc) | (with_reducible apply St.set0) | (with_reducible apply St.set1) | (with_reducible apply St.set2) | (with_reducible apply St.set3) | (with_reducible apply St.drew) | (with_reducible apply St.drewN))); all_goals (try (first | rfl | (simp; done)))) HK.out (by omega) (by omega)) ?_
           rintro e w3 ⟨A9, c9, F9, rfl, hS3⟩
           have HS3 := hide hS3
           obtain ⟨d0, d1, d2, d3, df, dz⟩ := (St.pull3 hS3).rawBox HRI.out
           (try clear x0 x1 xf xz)
           obtain ⟨x0, x1⟩ := (St.at3 (St.drop (St.drop hS3))).c2
           have xf := (St.at3 (St.drop (St.drop hS3))).frozen
           have xz := (St.at3 (St.drop (St.drop hS3))).lt
           clear hS3))
        all_goals
          go_wp2_with fail
          go_meet
          case rel =>
            refine ⟨A9, c9, F9, rfl, hide ?_⟩
            rw [← List.length_append]
            exact St.setHeld (m' := { m with held := ps ++ m.held }) (St.pull1 (St.drop1 (St.drop1 HS3.out))) HRI.out rfl ⟨rfl, rfl, rfl⟩
      case rest =>
        obtain ⟨A9, c9, F9, rfl, HX⟩ := hcut
        clear HQ q0 q1 q2 q3 qf qz HO HO2
        (try clear x0 x1 xf xz)
        obtain ⟨x0, x1⟩ := (St.at3 HX.out).c2
        have xf := (St.at3 HX.out).frozen
        have xz := (St.at3 HX.out).lt
        go_wp2_with fail
        go_cut [48] from 38 to 48 (fun s48 w' => ∃ (A9 : Option Addr) (c9 : Nat) (F9 : List Nat), s48 = .tuple #[] ∧ Hid (St w w' (own (rawD 4) 53 (.slice (some ⟨q, 0, none⟩) rs.length c) (rs.set i (boxRaw (putB ps x.limit m) A9 (putB ps x.limit m).held.length c9)) F1 :: own parcelD 68 (.slice A9 (putB ps x.limit m).held.length c9) (putB ps x.limit m).held F9 :: heldsP boxD (x.boxes.take i ++ x.boxes.drop (i + 1)) (rs.take i ++ rs.drop (i + 1)) Fs3 :: blk b #[.int .i64 x.limit, .slice (some ⟨q, 0, none⟩) rs.length c] 28 :: L)))
        case first =>
          go_region_with (
            (go_at_call 50
             refine Calls.mono (trim_c x.limit q c i (rs.set i (boxRaw { m with held := ps ++ m.held } A9 (ps ++ m.held).length c9)) F1 { m with held := ps ++ m.held } A9 c9 F9 w _ (heldsP boxD (x.boxes.take i ++ x.boxes.drop (i + 1)) (rs.take i ++ rs.drop (i + 1)) Fs3 :: blk b #[.int .i64 x.limit, .slice (some ⟨q, 0, none⟩) rs.length c] 28 :: L) (by rw [List.length_set]; (repeat (first | (with_reducible exact HX.out) | (with_reducible apply St.alloc) | (with_reducible apply St.set0) | (with_reducible apply St.set1) | (with_reducible apply St.set2) | (with_reducible apply St.set3) | (with_reducible apply St.drew) | (with_reducible apply St.drewN))); all_goals (try (first | rfl | (simp; done)))) (set_at HRI.out) HLM.out hm0 (by simp only [List.length_append]; omega)) ?_
             rintro e w4 ⟨rfl, A8, c8, F8, hS4⟩
             rw [List.length_set, List.set_set] at hS4
             have HS4 := hide hS4
             clear hS4))
          all_goals
            go_wp2_with fail
            go_meet
            case rel => exact ⟨A8, c8, F8, rfl, HS4⟩
        case rest =>
          clear HX
          obtain ⟨A9, c9, F9, rfl, HX⟩ := hcut
          go_wp2_with fail
          go_ret
          refine ⟨by rw [HOK.out]; rfl, ?_⟩
          rw [retF_at HR.out HLB.out HM.out.1]
          obtain ⟨Fs', h4⟩ := St.boxBack (y := putB ps x.limit m) (St.pull2 (St.pull2 HX.out)) hil HRL.out
          obtain ⟨P5, h5, F5, rfl⟩ := St.postShutP (p := { x with boxes := x.boxes.take i ++ putB ps x.limit m :: x.boxes.drop (i + 1) }) (St.pull2 (St.pull1 h4))
          exact ⟨_, [], h5, fun _ => ⟨⟨F5, rfl⟩, rfl⟩⟩
    · have HP := hide (show parsOkB ps = false by simpa using hp)
      have HOK := hide (show (retF t ps x).2 = false by simp [retF, HP.out])
      clear hi hp
      go_enter Try.func47, Try.ntmps47
      go_wp2_with (first
        | (go_at_call 32
           refine (postAt_c x b 0 t _ HS.out.boxRow HV.out).mono ?_
           rintro e w1 ⟨⟨i, hlb, rfl⟩, hb⟩
           rw [HI.out]
           have HLB := hide hlb
           have hib := hlb.1
           have hw1 : IntKind.i64.wrap ((i : Int) + 1) = (i : Int) + 1 := IntWalk.i64_in _ (by omega)
           obtain ⟨A, c, rs, F1, Fs, hrl, hO⟩ := (HS.out.by hb).postOpen
           rw [← hrl] at hO
           have HO := hide hO
           have HRL := hide hrl
           have hcap := cell_below hb hcap
           have hcap2 := cell_below hb hcap2
           have hc2 : b2 < w1.heap.size := World.block_lt_of_cell? w1 _ hcap2
           have HBW := hide hb
           (try clear x0 x1 xf xz)
           obtain ⟨x0, x1⟩ := hO.at0.c2
           have xf := hO.at0.frozen
           have xz := hO.at0.lt
           clear hlb hb hO hrl)
        | (go_at_call 48
           refine (parcelsOk_c ps _ _ (HK.out.below HO.out.below)).mono ?_
           rintro e w2 ⟨rfl, hb2⟩
           rw [HP.out]
           have HO2 := hide (HO.out.by hb2)
           have hcap2 := cell_below hb2 hcap2
           have hc2 : b2 < w2.heap.size := World.block_lt_of_cell? w2 _ hcap2
           (try clear x0 x1 xf xz)
           obtain ⟨x0, x1⟩ := (St.at0 HO2.out).c2
           have xf := (St.at0 HO2.out).frozen
           have xz := (St.at0 HO2.out).lt
           clear hb2))
      go_ret
      have hO2 := HO2.out
      rw [HRL.out] at hO2
      exact ⟨by rw [HOK.out]; rfl, _, [], (show St w _ (_ :: ([] ++ L)) from (St.postShut (by rw [HRL.out] at *; exact hO2)).choose_spec), fun h => by rw [HOK.out] at h; cases h⟩
  · have HI := hide (show hasT Box.token x.boxes t = false by simpa using hi)
    have HOK := hide (show (retF t ps x).2 = false by simp [retF, HI.out])
    clear hi
    go_enter Try.func47, Try.ntmps47
    go_wp2_with (first
      | (go_at_call 32
         refine (postAt_c x b 0 t _ HS.out.boxRow HV.out).mono ?_
         rintro e w1 ⟨⟨i, hlb, rfl⟩, hb⟩
         rw [HI.out]
         have HLB := hide hlb
         have hib := hlb.1
         have hw1 : IntKind.i64.wrap ((i : Int) + 1) = (i : Int) + 1 := IntWalk.i64_in _ (by omega)
         obtain ⟨A, c, rs, F1, Fs, hrl, hO⟩ := (HS.out.by hb).postOpen
         rw [← hrl] at hO
         have HO := hide hO
         have HRL := hide hrl
         have hcap := cell_below hb hcap
         have hcap2 := cell_below hb hcap2
         have hc2 : b2 < w1.heap.size := World.block_lt_of_cell? w1 _ hcap2
         have HBW := hide hb
         (try clear x0 x1 xf xz)
         obtain ⟨x0, x1⟩ := hO.at0.c2
         have xf := hO.at0.frozen
         have xz := hO.at0.lt
         clear hlb hb hO hrl))
    go_ret
    have hO := HO.out
    exact ⟨by rw [HOK.out]; rfl, _, [], (show St w _ (_ :: ([] ++ L)) from (St.postShut hO).choose_spec), fun h => by rw [HOK.out] at h; cases h⟩
end Go.Proofs.Ytdmhjfajicclaaa
