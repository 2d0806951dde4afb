/- A box is dropped: the program. -/
import Derived.Test.YtdmhjfajicclaaaPostAt
import Derived.Test.YtdmhjfajicclaaaDelPost
namespace Go.Proofs.Ytdmhjfajicclaaa
open Go Go.RowKit Go.BigFrame
set_option linter.unusedVariables false
set_option linter.unusedSimpArgs false

def dropF (t : ByteArray) (p : Post) : Post × Bool := ({ p with boxes := p.boxes.filter fun b => !tokIs t b }, hasT Box.token p.boxes t)
def dropOk (p : Post) (t : ByteArray) : Bool := chpOk p (dropF t)
def dropV (p : Post) (t : ByteArray) : Post := chP p (dropF t)
/-- A post's box and what it is made of. -/
theorem St.postShutP {w0 w : World} {L : List Piece} {p : Post} {b : Nat} {v : Value} {rs : List (Raw 4)} {F1 : List Nat} {Fs : List (List Nat)}
    (h : St w0 w (blk b #[.int .i64 p.limit, v] 28 :: own (rawD 4) 53 v rs F1 :: heldsP boxD p.boxes rs Fs :: L)) : ∃ A, St w0 w (A :: L) ∧ ∃ F', A = boxP postD 28 b p F' := by
  obtain ⟨F, h2⟩ := St.postShut (p := p) h
  exact ⟨_, h2, F, rfl⟩
theorem cut_at {α : Type} {xs : List α} {i : Nat} {x : α} (hx : xs[i]? = some x) : xs = xs.take i ++ x :: xs.drop (i + 1) := by
  obtain ⟨hl, rfl⟩ := List.getElem?_eq_some_iff.1 hx
  rw [← List.drop_eq_getElem_cons hl, List.take_append_drop]
theorem St.boxCut {w0 w : World} {L : List Piece} {xs : List Box} {rs : List (Raw 4)} {Fs : List (List Nat)} {i : Nat} {x : Box} (h : St w0 w (heldsP boxD xs rs Fs :: L)) (hx : xs[i]? = some x) :
    ∃ A c G Fs', rs[i]? = some (boxRaw x A x.held.length c) ∧ St w0 w (own parcelD 68 (.slice A x.held.length c) x.held G :: heldsP boxD (xs.take i ++ xs.drop (i + 1)) (rs.take i ++ rs.drop (i + 1)) Fs' :: L) := by
  obtain ⟨A, c, hr, -⟩ := h.boxAt hx
  have hl := h.boxLen
  have hil := (List.getElem?_eq_some_iff.1 hx).1
  have h1 := cut_at hx
  have h2 := cut_at hr
  have h3 : St w0 w (heldsP boxD (xs.take i ++ x :: xs.drop (i + 1)) (rs.take i ++ boxRaw x A x.held.length c :: rs.drop (i + 1)) Fs :: L) := by rw [← h1, ← h2]; exact h
  have h5 : (rs.take i).length = (xs.take i).length := by rw [List.length_take, List.length_take, hl]
  obtain ⟨G, Fs', h4⟩ := St.heldCut (d := boxD) h3 h5
  exact ⟨A, c, G, Fs', hr, h4.boxOut⟩
set_option maxHeartbeats 8000000 in
set_option maxRecDepth 100000 in
theorem dropBox1_c (t : ByteArray) (w : World) {b1 : Nat} (h1 : w.cell? ⟨b1, 0, none⟩ = some (.string t)) :
    TurnsX Try.prog postD 28 31 #[.pointer (some ⟨b1, 0, none⟩)] (fun r => validPostB r = true) (dropF t) w [] (fun _ X => X = []) := by
  intro x b F W L hS hv
  replace hS : St w W (boxP postD 28 b x F :: L) := hS
  show Calls Try.prog 31 #[.pointer (some ⟨b, 0, none⟩), .pointer (some ⟨b1, 0, none⟩)] W _
  have hcap := cell_below hS.below h1
  have hcz := World.block_lt_of_cell? W _ hcap
  simp only [] at hcz
  have HS := hide hS
  have HV := hide hv
  have hlen := (fewP_of hv).1
  have HR := hide (rises_valid hv)
  clear hS hv h1
  by_cases hi : hasT Box.token x.boxes t = true
  · have HI := hide hi
    have HOK := hide (show (dropF t x).2 = true from hi)
    clear hi
    go_enter Try.func31, Try.ntmps31
    go_wp2_with (first
      | (go_at_call 32
         refine (postAt_c x b 0 t _ HS.out.boxRow HV.out).mono ?_
         rintro e w1 ⟨⟨i, hlb, rfl⟩, hb⟩
         rw [HI.out]
         have HLB := hide hlb
         have hib := hlb.1
         have hw1 : IntKind.i64.wrap ((i : Int) + 1) = (i : Int) + 1 := IntWalk.i64_in _ (by omega)
         obtain ⟨A, c, rs, F1, Fs, hrl, hO⟩ := (HS.out.by hb).postOpen
         have HO := hide hO
         have HRL := hide hrl
         have hcap := cell_below hb hcap
         (try clear x0 x1 xf xz)
         obtain ⟨x0, x1⟩ := hO.at0.c2
         have xf := hO.at0.frozen
         have xz := hO.at0.lt
         clear hlb hb hO hrl)
      | (go_at_call 33
         obtain ⟨m, hm, hmt⟩ := HLB.out.found HR.out HI.out
         have hil := (List.getElem?_eq_some_iff.1 hm).1
         have hrl := HRL.out
         have hD := delBox_c i (i + 1) rs A c F1 w w1 (blk b #[.int .i64 x.limit, .slice A x.boxes.length c] 28 :: heldsP boxD x.boxes rs Fs :: L) (by rw [hrl]; exact HO.out.pull1) (by omega) (by omega) (by omega)
         rw [hrl] at hD
         simp only [Int.natCast_add, Int.cast_ofNat_Int] at hD
         refine hD.mono ?_
         rintro e w2 ⟨A2, c2, F2, rfl, hS2⟩
         have HM := hide (And.intro hm hmt)
         have HS2 := hide hS2
         (try clear x0 x1 xf xz)
         obtain ⟨x0, x1⟩ := (St.at1 hS2).c2
         have xf := (St.at1 hS2).frozen
         have xz := (St.at1 hS2).lt
         clear hm hmt hil hrl hD hS2))
    go_ret
    obtain ⟨hm, hmt⟩ := HM.out
    have hF := filt_one HR.out hm hmt
    have key : ∀ W', St w W' (own (rawD 4) 53 (.slice A2 (rs.take i ++ rs.drop (i + 1)).length c2) (rs.take i ++ rs.drop (i + 1)) F2 :: blk b #[.int .i64 x.limit, .slice A2 (rs.take i ++ rs.drop (i + 1)).length c2] 28 :: heldsP boxD x.boxes rs Fs :: L) →
        ∃ A X', St w W' (A :: (X' ++ L)) ∧ ((dropF t x).2 = true → (∃ F', A = boxP postD 28 b (dropF t x).1 F') ∧ X' = []) := by
      intro W' h3
      obtain ⟨A5, c5, G5, Fs5, -, h4⟩ := St.boxCut h3.pull2 hm
      rw [← hF] at h4
      obtain ⟨P5, h5, F5, rfl⟩ := St.postShutP (p := (dropF t x).1) h4.drop.push2.pull1
      exact ⟨_, [], h5, fun _ => ⟨⟨F5, rfl⟩, rfl⟩⟩
    exact ⟨by rw [HOK.out]; rfl, key _ (by (repeat (first | (with_reducible exact HS2.out) | (with_reducible apply St.alloc) | (with_reducible apply St.set0) | (with_reducible apply St.set1) | (with_reducible apply St.set2) | (with_reducible apply St.set3) | (with_reducible apply St.drew) | (with_reducible apply St.drewN))); all_goals (try (first | rfl | (simp; done))))⟩
  · have HI := hide (show hasT Box.token x.boxes t = false by simpa using hi)
    have HOK := hide (show (dropF t x).2 = false from HI.out)
    clear hi
    go_enter Try.func31, Try.ntmps31
    go_wp2_with (first
      | (go_at_call 32
         refine (postAt_c x b 0 t _ HS.out.boxRow HV.out).mono ?_
         rintro e w1 ⟨⟨i, hlb, rfl⟩, hb⟩
         rw [HI.out]
         have HLB := hide hlb
         have hib := hlb.1
         have hw1 : IntKind.i64.wrap ((i : Int) + 1) = (i : Int) + 1 := IntWalk.i64_in _ (by omega)
         obtain ⟨A, c, rs, F1, Fs, hrl, hO⟩ := (HS.out.by hb).postOpen
         have HO := hide hO
         have HRL := hide hrl
         have hcap := cell_below hb hcap
         (try clear x0 x1 xf xz)
         obtain ⟨x0, x1⟩ := hO.at0.c2
         have xf := hO.at0.frozen
         have xz := hO.at0.lt
         clear hlb hb hO hrl))
    go_ret
    exact ⟨by rw [HOK.out]; rfl, _, [], (show St w _ (_ :: ([] ++ L)) from (St.postShut HO.out).choose_spec), fun h => by rw [HOK.out] at h; cases h⟩
end Go.Proofs.Ytdmhjfajicclaaa
