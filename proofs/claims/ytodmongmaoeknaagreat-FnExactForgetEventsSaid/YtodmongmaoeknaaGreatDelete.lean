/- A number is taken out of a row of a call's own. -/
import Derived.Test.YtodmongmaoeknaaGreatSearch
import Derived.Shelf.SlGeneric
import Derived.Shelf.SlicesG.Cells
namespace Go.Proofs.YtodmongmaoeknaaGreat
open Go Go.RowKit
set_option linter.unusedVariables false
set_option linter.unusedSimpArgs false

def delRen : Go.Shelf.Ren := ⟨fun | 45 => 93 | n => n, fun | 22 => 78 | 23 => 2 | 3 => 3 | 4 => 4 | 0 => 0 | n => n, fun n => n⟩
theorem layDelete : SlLaysN.n45 Tryz.prog delRen := { mixed := by kernel_rfl, f45 := ⟨Tryz.f93.name, by decide, (Tryz.func93).trans (congrArg some (by kernel_rfl))⟩, t0 := Tryz.underlying0, a0 := Tryz.isAgg0, z0 := Tryz.sizeOf0, v0 := Tryz.zeroValue0, t3 := Tryz.underlying3, a3 := Tryz.isAgg3, z3 := Tryz.sizeOf3, v3 := Tryz.zeroValue3, t4 := Tryz.underlying4, a4 := Tryz.isAgg4, z4 := Tryz.sizeOf4, v4 := Tryz.zeroValue4, t22 := Tryz.underlying78, a22 := Tryz.isAgg78, z22 := Tryz.sizeOf78, v22 := Tryz.zeroValue78, t23 := Tryz.underlying2, a23 := Tryz.isAgg2, z23 := Tryz.sizeOf2, v23 := Tryz.zeroValue2, i23 := by kernel_rfl }
theorem setCells_put : ∀ (us : List Value) (w : World) (b o : Nat), w.setCells b o us = putCells w b o us
  | [], _, _, _ => rfl
  | u :: us, w, b, o => by rw [World.setCells, putCells, setCells_put us]
theorem delete_c (v : Value) (l : List Int) (F : List Nat) (k : Nat) (w : World) (hM : SliceM intD 2 w v l F) (hk : k < l.length) :
    Calls Tryz.prog 93 #[v, .int .i64 k, .int .i64 ((k : Int) + 1)] w fun e w' => ∃ v', e = .returned v' ∧ SliceM intD 2 w' v' (l.eraseIdx k) F ∧ Chg F w w' := by
  have hK := hM.toK
  rcases int_M hM with ⟨rfl, rfl, rfl⟩ | ⟨B, cap, cur, rfl, hl, hm, hcur, hsz, htk, rfl⟩
  · simp at hk
  have hlen : l.length ≤ cur.toList.length := by have : cur.toList.length = cur.size := Array.length_toList; omega
  have hcell : ∀ j, j < l.length → w.cell? ⟨B, 0 + j, none⟩ = some (.int .i64 (l.getD j 0)) := fun j hj => by
    obtain ⟨A, c, hv, _, _, hra⟩ := hK
    rcases hra with hnil | ⟨b, o, hA, hr⟩
    · rw [hnil] at hk; simp at hk
    · simp only [Value.slice.injEq, true_and] at hv
      obtain ⟨hv1, hv2⟩ := hv
      rw [hA] at hv1
      simp only [Option.some.injEq, Addr.mk.injEq, and_true] at hv1
      obtain ⟨rfl, rfl⟩ := hv1
      have := (int_at hr (Below.refl _ _) (List.getElem?_eq_getElem hj)).2
      rw [this]; simp [List.getD, hj]
  have h := AnyG.slices_Delete_int_cells layDelete B 0 l.length cap k (k + 1) l w (Nat.le_refl _) hl hm (Nat.le_succ _) hk hcell (fun j _ => frozen_block hcur)
  change Calls Tryz.prog 93 _ _ _ at h
  simp only [Int.natCast_add, Int.cast_ofNat_Int] at h
  refine h.mono ?_
  rintro e w' ⟨rfl, q, rfl⟩
  have hcur' : (w.drewN q).heap[B]? = some (.cells cur 2 (0, 0)) := hcur
  have h1 : l.length - (k + 1 - k) = (l.eraseIdx k).length := by rw [List.length_eraseIdx_of_lt hk]; omega
  have h2 : k + 1 - k = 1 := by omega
  rw [h1, h2, List.take_length, setCells_put]
  obtain ⟨cur', hb', hs'⟩ := putCells_block ((l.take k ++ l.drop (k + 1) ++ List.replicate 1 0).map (Value.int .i64)) (w.drewN q) B 0 hcur'
  have hul : ((l.take k ++ l.drop (k + 1) ++ List.replicate 1 0).map (Value.int .i64)).length = l.length := by simp; omega
  have hsl := segSet_len ((l.take k ++ l.drop (k + 1) ++ List.replicate 1 0).map (Value.int .i64)) cur.toList 0
  have htake := segSet_take ((l.take k ++ l.drop (k + 1) ++ List.replicate 1 0).map (Value.int .i64)) cur.toList 0 (by rw [hul]; omega)
  refine ⟨_, rfl, ?_, ?_⟩
  · refine flat_M_mk (xs := l.eraseIdx k) (cap := cap) (by rw [List.length_eraseIdx_of_lt hk]; omega) hm hb' ?_ ?_
    · have := congrArg List.length hs'
      rw [hsl] at this
      simp at this; rw [this, hsz]; omega
    · rw [hs', Nat.mul_one]
      rw [Nat.zero_add, hul, List.take_zero, List.nil_append] at htake
      have h3 : (l.eraseIdx k).length ≤ l.length := by rw [List.length_eraseIdx_of_lt hk]; omega
      rw [show ∀ X : List Value, X.take (l.eraseIdx k).length = (X.take l.length).take (l.eraseIdx k).length from fun X => by rw [List.take_take, Nat.min_eq_left h3], htake, flat1 (fun x => Value.int .i64 x), List.eraseIdx_eq_take_drop_succ, List.map_append, List.take_append_of_le_length (by simp), List.take_of_length_le (by simp)]
  · exact putCells_chg _ B 0 (Chg.drewN (Chg.refl [B] w) q) (.inl (by simp))
end Go.Proofs.YtodmongmaoeknaaGreat
