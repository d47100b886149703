/- compareVers, slices.SortFunc at versions that are owned. Every element's cell and stamp in their ranges. -/
import Derived.Test.YtnhkjgnfjphllaaSortL
import Derived.Test.YtnhkjgnfjphllaaSortK
import Derived.Test.YtnhkjgnfjphllaaVersOk
import Derived.Test.YtnhkjgnfjphllaaMineV
namespace Go.Proofs.Ytnhkjgnfjphllaa
open Go.RowKit Go.Deep Go.Shelf Go.Lib Go.Sort
set_option linter.unusedSimpArgs false
set_option linter.unusedVariables false

/-- Cell and stamp lie where a difference is exact. -/
def Ver.fine (x : Ver) : Prop := (0 ≤ x.cell ∧ x.cell ≤ 7) ∧ 0 ≤ x.stamp ∧ x.stamp ≤ 1000000
structure FVer where
  v : Ver
  h : v.fine
instance : Inhabited FVer := ⟨⟨⟨0, 0, 0⟩, by unfold Ver.fine; decide⟩⟩
def FVer.enc (x : FVer) : List Value := x.v.cells
def FVer.cmp (x y : FVer) : Int := if x.v.cell ≠ y.v.cell then x.v.cell - y.v.cell else x.v.stamp - y.v.stamp
theorem FVer.lt_iff (x y : FVer) : ltOf FVer.cmp x y = true ↔ verLt x.v y.v := by
  unfold ltOf FVer.cmp verLt
  split <;> simp <;> omega
theorem FVer.lt_not (x y : FVer) : ltOf FVer.cmp x y = false ↔ ¬ verLt x.v y.v := by
  rw [← FVer.lt_iff]; simp
theorem FVer.swo : SWO (ltOf FVer.cmp) where
  irrefl x := by rw [FVer.lt_not]; unfold verLt; omega
  trans x y z h1 h2 := by rw [FVer.lt_iff] at *; unfold verLt at *; omega
  ntrans x y z h1 h2 := by rw [FVer.lt_not] at *; unfold verLt at *; omega

set_option maxHeartbeats 1000000 in
theorem compareVers_grow (x0 x1 x2 y0 y1 y2 : Int) (hx : (0 ≤ x0 ∧ x0 ≤ 7) ∧ 0 ≤ x1 ∧ x1 ≤ 1000000) (hy : (0 ≤ y0 ∧ y0 ≤ 7) ∧ 0 ≤ y1 ∧ y1 ≤ 1000000) (W : World) :
    Calls Try.prog 61 #[.agg #[.int .i64 x0, .int .i64 x1, .int .i64 x2], .agg #[.int .i64 y0, .int .i64 y1, .int .i64 y2]] W fun e w' => e = .returned (.int .i64 (if x0 ≠ y0 then x0 - y0 else x1 - y1)) ∧ ∃ q os', w' = grow (W.drewN q) os' := by
  by_cases h : x0 = y0
  · have b0 : (x0 != y0) = false := by simp [h]
    have hh : (if x0 ≠ y0 then x0 - y0 else x1 - y1) = x1 - y1 := if_neg (by simpa using h)
    rw [hh]
    have HH := Lib.hid h
    clear h hh
    go_enter Try.func61, Try.ntmps61
    go_wp2
    go_ret
    exact ⟨by go_num, 0, _, by rw [alloc_eq_grow, alloc_eq_grow, grow_grow]; rfl⟩
  · have b0 : (x0 != y0) = true := by simp [h]
    rw [if_pos h]
    clear h
    go_enter Try.func61, Try.ntmps61
    go_wp2
    go_ret
    exact ⟨by go_num, 0, _, by rw [alloc_eq_grow, alloc_eq_grow, grow_grow]; rfl⟩
theorem cmpLays_V (blk off size : Nat) (w : World) : CmpLays Try.prog 61 #[] FVer.enc 3 FVer.cmp blk off size w :=
  fun _ _ _ _ x y => compareVers_grow x.v.cell x.v.stamp x.v.val y.v.cell y.v.stamp y.v.val x.h y.h _

theorem permIn_list {α : Type} [Inhabited α] {d d' : Array α} (h : PermIn 0 d.size d d') : d'.toList.Perm d.toList := by
  obtain ⟨hs, _, hp⟩ := h
  have e1 : (d'.extract 0 d.size) = d' := by rw [← hs]; simp
  have e2 : (d.extract 0 d.size) = d := by simp
  rw [e1, e2] at hp
  exact hp
theorem sortedIn_list {α : Type} [Inhabited α] {lt : α → α → Bool} {d : Array α} {n : Nat} (hn : d.size = n) (h : SortedIn lt 0 n d) : d.toList.Pairwise (fun x y => lt y x = false) := by
  rw [List.pairwise_iff_getElem]
  intro i j hi hj hij
  have hi' : i < d.size := by simpa using hi
  have hj' : j < d.size := by simpa using hj
  have := h i j (Nat.zero_le _) hij (by omega)
  rw [getElem!_pos d j hj', getElem!_pos d i hi'] at this
  simpa using this
theorem Mine.sortVers {b w : World} {rs : List Res} {i n c : Nat} {A : Option Addr} {l : List Ver} (M : Mine b w rs) (hi : rs[i]? = some (.row 73 3 A n c (l.flatMap Ver.cells))) (hf : ∀ x ∈ l, x.fine) (hn : n ≤ 1048576) :
    Calls Try.prog 72 #[.slice A n c, .func (.func 61) #[] #[]] w fun e w' => e = .returned (.tuple #[]) ∧ ∃ l' : List Ver, l'.Perm l ∧ l'.Pairwise (fun x y => ¬ verLt y x) ∧ Mine b w' (rs.set i (.row 73 3 A n c (l'.flatMap Ver.cells))) := by
  have hl : l.length = n := by have h := M.len i hi; rw [flat_length Ver.cells_length] at h; omega
  rcases Nat.eq_zero_or_pos n with h0 | h0
  · subst h0
    obtain rfl : l = [] := List.eq_nil_of_length_eq_zero hl
    have h := AnyF.slices_SortFunc_none Try.sortVer A c (.func (.func 61) #[] #[]) w
    change Calls Try.prog 72 _ _ _ at h
    refine h.mono ?_
    rintro e w' ⟨rfl, hw⟩
    refine ⟨rfl, [], List.Perm.refl _, List.Pairwise.nil, ?_⟩
    have hset : rs.set i (.row 73 3 A 0 c (([] : List Ver).flatMap Ver.cells)) = rs := by
      obtain ⟨hlt, he⟩ := List.getElem?_eq_some_iff.1 hi
      rw [← he]; simp
    rw [hset]
    first | (rw [hw]; exact M) | (obtain ⟨q, hw⟩ := hw; rw [hw]; exact M.drN _) | (obtain ⟨q, os, hw⟩ := hw; rw [hw]; exact M.drN _)
  obtain ⟨g, rfl⟩ := M.addr i hi h0
  let d : Array FVer := (l.attach.map fun x => (⟨x.1, hf x.1 x.2⟩ : FVer)).toArray
  have hd : d.size = n := by show (l.attach.map _).toArray.size = n; simp [hl]
  have henc : d.toList.flatMap FVer.enc = l.flatMap Ver.cells := by
    show (l.attach.map _).flatMap FVer.enc = _
    rw [List.flatMap_map]
    show l.attach.flatMap (fun x => Ver.cells x.1) = _
    rw [← List.flatMap_map (f := Subtype.val), List.attach_map_subtype_val]
  have hmap : d.toList.map FVer.v = l := by
    show (l.attach.map _).map FVer.v = _
    rw [List.map_map]
    show l.attach.map Subtype.val = _
    rw [List.attach_map_subtype_val]
  rw [← henc] at hi
  have hk : ∀ x : FVer, x.enc.length = 3 := fun _ => rfl
  have hH := own_holdsK (enc := FVer.enc) hk (M.row_at i hi) hd
  have eg : ∀ args w, (callFunc 61 args).run Try.prog w = .ok (.enter 61 args) w := enters_of Try.func61 (by kernel_rfl) rfl
  have hcon := AnyQ.slices_SortFunc Try.sortVer 3 Try.isAgg73 Try.sizeOf73 FVer.enc hk (fun x v hv => by
    simp [FVer.enc, Ver.cells] at hv
    rcases hv with rfl | rfl | rfl <;> rfl) FVer.cmp FVer.swo 61 #[] g 0 c d w eg (cmpLays_V g 0 d.size w) hH (M.row_at i hi |>.lt g rfl).2 (by omega)
  change Calls Try.prog 72 _ _ _ at hcon
  rw [hd] at hcon
  refine hcon.mono ?_
  rintro e w' ⟨rfl, d', m, os, hp, hs, rfl⟩
  have hp' : PermIn 0 d.size d d' := by rw [hd]; exact hp
  have hd' : d'.size = n := by rw [hp'.1, hd]
  refine ⟨rfl, d'.toList.map FVer.v, ?_, ?_, ?_⟩
  · have h1 := (permIn_list hp').map FVer.v
    rw [hmap] at h1
    exact h1
  · have h1 := sortedIn_list hd' hs
    rw [List.pairwise_map]
    exact h1.imp fun {x y} h => (FVer.lt_not y x).1 h
  · have h1 := M.sortedK hk hi hd m d' os hd'
    have e2 : d'.toList.flatMap FVer.enc = (d'.toList.map FVer.v).flatMap Ver.cells := by rw [List.flatMap_map]; rfl
    rw [e2] at h1
    exact h1
end Go.Proofs.Ytnhkjgnfjphllaa
