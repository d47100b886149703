/- A history that is owned: a row of entries, the puts of each a row of its own; how it reads. No condition. byStamp, slices.SortFunc at entries that are owned. Every entry's stamp in its range. HistOk, copyHist of the program. No condition but lengths. -/
import Derived.Test.YtglplgbhhnmgbaaGreatOM1
import Derived.Test.YtglplgbhhnmgbaaGreatSortO
import Derived.Test.YtglplgbhhnmgbaaGreatSortK
import Derived.Test.YtglplgbhhnmgbaaGreatMineV
import Derived.Test.YtglplgbhhnmgbaaGreatPour
namespace Go.Proofs.YtglplgbhhnmgbaaGreat
open Go.RowKit Go.Deep
set_option linter.unusedSimpArgs false
set_option linter.unusedVariables false

/-- An entry and where its puts lie. -/
abbrev Ent := (Option Addr × Nat × Nat) × Wrote
def ecell (p : Ent) : List Value := [.int .i64 p.2.stamp_, .int .i64 p.2.who_, .slice p.1.1 p.1.2.1 p.1.2.2]
def erow (p : Ent) : Res := .row 87 2 p.1.1 p.1.2.1 p.1.2.2 (p.2.puts_.flatMap Row.cells)
theorem ecell_length (p : Ent) : (ecell p).length = 3 := rfl
theorem hist_R {b w : World} {es : List Ent} {B : Option Addr} {m d : Nat} {fr : List Res} (M : Mine b w (.row 132 3 B m d (es.flatMap ecell) :: (es.map erow ++ fr))) (hp : ∀ p ∈ es, p.2.puts_.length ≤ 1048576) :
    SlR Wrote.R 3 w (fun _ => True) B m (es.map (·.2)) := by
  have h := M.row_sl 0 rfl
  have hl : es.length = m := h.flen ecell_length (by omega)
  refine ⟨by simpa using hl, fun hn => ?_⟩
  obtain ⟨b', o, e, hS, hb, hc⟩ := h.2 hn
  refine ⟨b', o, e, trivial, hb, fun k x hx => ?_⟩
  rw [List.getElem?_map] at hx
  obtain ⟨p, hpk, rfl⟩ := Option.map_eq_some_iff.1 hx
  have hk := (List.getElem?_eq_some_iff.1 hpk).1
  have hi : (Res.row 132 3 B m d (es.flatMap ecell) :: (es.map erow ++ fr))[k + 1]? = some (erow p) := by
    rw [List.getElem?_cons_succ, List.getElem?_append_left (by simpa using hk), List.getElem?_map, hpk]; rfl
  have hr := M.row_at (k + 1) hi
  have hn0 : p.2.puts_.length = p.1.2.1 := (ownSl hr).flen Row.cells_length (by omega)
  refine ⟨ecell p, ⟨p.1.1, p.1.2.1, p.1.2.2, rfl, own_cap hr, ?_, ownSl hr⟩, fun j hj => ?_⟩
  · have := hp p (List.mem_of_getElem? hpk); omega
  · rw [Nat.add_assoc]
    exact (hc (k * 3 + j) (by omega)).trans (flat_get ecell_length es k j p hpk hj)
end Go.Proofs.YtglplgbhhnmgbaaGreat

namespace Go.Proofs.YtglplgbhhnmgbaaGreat
open Go.RowKit Go.Deep Go.Shelf Go.Lib Go.Sort
set_option linter.unusedSimpArgs false
set_option linter.unusedVariables false

def entFine (p : Ent) : Prop := 1 ≤ p.2.stamp_ ∧ p.2.stamp_ ≤ 1000000
structure FEnt where
  v : Ent
  h : entFine v
instance : Inhabited FEnt := ⟨⟨((none, 0, 0), ⟨1, 0, []⟩), by unfold entFine; decide⟩⟩
def FEnt.enc (x : FEnt) : List Value := ecell x.v
def FEnt.cmp (x y : FEnt) : Int := x.v.2.stamp_ - y.v.2.stamp_
def entLt (x y : Ent) : Prop := x.2.stamp_ < y.2.stamp_
theorem FEnt.lt_iff (x y : FEnt) : ltOf FEnt.cmp x y = true ↔ entLt x.v y.v := by
  unfold ltOf FEnt.cmp entLt
  simp <;> omega
theorem FEnt.lt_not (x y : FEnt) : ltOf FEnt.cmp x y = false ↔ ¬ entLt x.v y.v := by
  rw [← FEnt.lt_iff]; simp
theorem FEnt.swo : SWO (ltOf FEnt.cmp) where
  irrefl x := by rw [FEnt.lt_not]; unfold entLt; omega
  trans x y z h1 h2 := by rw [FEnt.lt_iff] at *; unfold entLt at *; omega
  ntrans x y z h1 h2 := by rw [FEnt.lt_not] at *; unfold entLt at *; omega

set_option maxHeartbeats 1000000 in
theorem byStamp_grow (x0 x1 y0 y1 : Int) (A B : Option Addr) (n c m d : Nat) (hx : 1 ≤ x0 ∧ x0 ≤ 1000000) (hy : 1 ≤ y0 ∧ y0 ≤ 1000000) (W : World) :
    Calls Tryz.prog 75 #[.agg #[.int .i64 x0, .int .i64 x1, .slice A n c], .agg #[.int .i64 y0, .int .i64 y1, .slice B m d]] W fun e w' => e = .returned (.int .i64 (x0 - y0)) ∧ ∃ q os', w' = grow (W.drewN q) os' := by
  go_enter Tryz.func75, Tryz.ntmps75
  go_wp2
  go_ret
  exact ⟨by go_num, 0, _, by rw [alloc_eq_grow, alloc_eq_grow, grow_grow]; rfl⟩
theorem cmpLays_E (blk off size : Nat) (w : World) : CmpLays Tryz.prog 75 #[] FEnt.enc 3 FEnt.cmp blk off size w :=
  fun _ _ _ _ x y => byStamp_grow x.v.2.stamp_ x.v.2.who_ y.v.2.stamp_ y.v.2.who_ x.v.1.1 y.v.1.1 _ _ _ _ x.h y.h _

theorem permIn_list {α : Type} [Inhabited α] {d d' : Array α} (h : PermIn 0 d.size d d') : d'.toList.Perm d.toList := by
  obtain ⟨hs, _, hp⟩ := h
  have e1 : (d'.extract 0 d.size) = d' := by rw [← hs]; simp
  have e2 : (d.extract 0 d.size) = d := by simp
  rw [e1, e2] at hp
  exact hp
theorem sortedIn_list {α : Type} [Inhabited α] {lt : α → α → Bool} {d : Array α} {n : Nat} (hn : d.size = n) (h : SortedIn lt 0 n d) : d.toList.Pairwise (fun x y => lt y x = false) := by
  rw [List.pairwise_iff_getElem]
  intro i j hi hj hij
  have hi' : i < d.size := by simpa using hi
  have hj' : j < d.size := by simpa using hj
  have := h i j (Nat.zero_le _) hij (by omega)
  rw [getElem!_pos d j hj', getElem!_pos d i hi'] at this
  simpa using this
theorem Mine.sortEnts {b w : World} {rs : List Res} {i n c : Nat} {A : Option Addr} {l : List Ent} (M : Mine b w rs) (hi : rs[i]? = some (.row 132 3 A n c (l.flatMap ecell))) (hf : ∀ x ∈ l, entFine x) (hn : n ≤ 1048576) :
    Calls Tryz.prog 74 #[.slice A n c, .func (.func 75) #[] #[]] w fun e w' => e = .returned (.tuple #[]) ∧ ∃ l' : List Ent, l'.Perm l ∧ l'.Pairwise (fun x y => ¬ entLt y x) ∧ Mine b w' (rs.set i (.row 132 3 A n c (l'.flatMap ecell))) := by
  have hl : l.length = n := by have h := M.len i hi; rw [flat_length ecell_length] at h; omega
  rcases Nat.eq_zero_or_pos n with h0 | h0
  · subst h0
    obtain rfl : l = [] := List.eq_nil_of_length_eq_zero hl
    have h := AnyF.slices_SortFunc_none Tryz.sortEnt A c (.func (.func 75) #[] #[]) w
    change Calls Tryz.prog 74 _ _ _ at h
    refine h.mono ?_
    rintro e w' ⟨rfl, hw⟩
    refine ⟨rfl, [], List.Perm.refl _, List.Pairwise.nil, ?_⟩
    have hset : rs.set i (.row 132 3 A 0 c (([] : List Ent).flatMap ecell)) = rs := by
      obtain ⟨hlt, he⟩ := List.getElem?_eq_some_iff.1 hi
      rw [← he]; simp
    rw [hset]
    first | (rw [hw]; exact M) | (obtain ⟨q, hw⟩ := hw; rw [hw]; exact M.drN _) | (obtain ⟨q, os, hw⟩ := hw; rw [hw]; exact M.drN _)
  obtain ⟨g, rfl⟩ := M.addr i hi h0
  let d : Array FEnt := (l.attach.map fun x => (⟨x.1, hf x.1 x.2⟩ : FEnt)).toArray
  have hd : d.size = n := by show (l.attach.map _).toArray.size = n; simp [hl]
  have henc : d.toList.flatMap FEnt.enc = l.flatMap ecell := by
    show (l.attach.map _).flatMap FEnt.enc = _
    rw [List.flatMap_map]
    show l.attach.flatMap (fun x => ecell x.1) = _
    rw [← List.flatMap_map (f := Subtype.val), List.attach_map_subtype_val]
  have hmap : d.toList.map FEnt.v = l := by
    show (l.attach.map _).map FEnt.v = _
    rw [List.map_map]
    show l.attach.map Subtype.val = _
    rw [List.attach_map_subtype_val]
  rw [← henc] at hi
  have hk : ∀ x : FEnt, x.enc.length = 3 := fun _ => rfl
  have hH := own_holdsK (enc := FEnt.enc) hk (M.row_at i hi) hd
  have eg : ∀ args w, (callFunc 75 args).run Tryz.prog w = .ok (.enter 75 args) w := enters_of Tryz.func75 (by kernel_rfl) rfl
  have hcon := AnyQ.slices_SortFunc Tryz.sortEnt 3 Tryz.isAgg132 Tryz.sizeOf132 FEnt.enc hk (fun x v hv => by
    simp [FEnt.enc, ecell] at hv
    rcases hv with rfl | rfl | rfl <;> rfl) FEnt.cmp FEnt.swo 75 #[] g 0 c d w eg (cmpLays_E g 0 d.size w) hH (M.row_at i hi |>.lt g rfl).2 (by omega)
  change Calls Tryz.prog 74 _ _ _ at hcon
  rw [hd] at hcon
  refine hcon.mono ?_
  rintro e w' ⟨rfl, d', m, os, hp, hs, rfl⟩
  have hp' : PermIn 0 d.size d d' := by rw [hd]; exact hp
  have hd' : d'.size = n := by rw [hp'.1, hd]
  refine ⟨rfl, d'.toList.map FEnt.v, ?_, ?_, ?_⟩
  · have h1 := (permIn_list hp').map FEnt.v
    rw [hmap] at h1
    exact h1
  · have h1 := sortedIn_list hd' hs
    rw [List.pairwise_map]
    exact h1.imp fun {x y} h => (FEnt.lt_not y x).1 h
  · have h1 := M.sortedK hk hi hd m d' os hd'
    have e2 : d'.toList.flatMap FEnt.enc = (d'.toList.map FEnt.v).flatMap ecell := by rw [List.flatMap_map]; rfl
    rw [e2] at h1
    exact h1
end Go.Proofs.YtglplgbhhnmgbaaGreat

namespace Go.Proofs.YtglplgbhhnmgbaaGreat
open Go.RowKit Go.Deep
set_option linter.unusedSimpArgs false
set_option linter.unusedVariables false

theorem SlR.pre {α : Type} {R : Rd α} {size : Nat} {w : World} {S : Nat → Prop} {A : Option Addr} {n k : Nat} {l : List α} (h : SlR R size w S A n l) (hk : k ≤ n) : SlR R size w S A k (l.take k) := by
  refine ⟨by rw [List.length_take, h.1]; omega, fun hn => ?_⟩
  obtain ⟨b, o, e, hS, hb, hc⟩ := h.2 (by omega)
  refine ⟨b, o, e, hS, hb, fun i x hx => hc i x ?_⟩
  rw [List.getElem?_take] at hx
  split at hx
  · exact hx
  · cases hx
theorem row_one (l : List Row) : ∀ u ∈ l.flatMap Row.cells, u.oneCell' = true := by
  intro u hu
  obtain ⟨x, _, hx⟩ := List.mem_flatMap.1 hu
  simp [Row.cells] at hx
  rcases hx with h | h <;> subst h <;> rfl
theorem ents_one (es : List Ent) : ∀ u ∈ es.flatMap ecell, u.oneCell' = true := by
  intro u hu
  obtain ⟨x, _, hx⟩ := List.mem_flatMap.1 hu
  simp [ecell] at hx
  rcases hx with h | h | h <;> subst h <;> rfl
theorem ext_co {w w' : World} (h : Ext w w') {p : Addr} {v : Value} (hc : w.cell? p = some v) (hb : p.block < w.heap.size) : w'.cell? p = some v := (h.cell hb).trans hc
def stampNe (s : Int) (x : Wrote) : Prop := x.stamp_ ≠ s
theorem hiC_any (x : Wrote) (A : Option Addr) (n c : Nat) (gx : Nat) (s0 : Int) (w : World) (hg : w.cell? ⟨gx, 0, none⟩ = some (.int .i64 s0)) (hgb : gx < w.heap.size) :
    Calls Tryz.prog 71 #[.agg #[.int .i64 x.stamp_, .int .i64 x.who_, .slice A n c], .pointer (some ⟨gx, 0, none⟩)] w fun e w' => e = .returned (.bool (!dec (stampNe s0 x))) ∧ Ext w w' := by
  by_cases h : x.stamp_ = s0
  · have b0 : (x.stamp_ == s0) = true := by simp [h]
    rw [dec_no (show ¬ stampNe s0 x from fun q => q h)]
    clear h
    go_enter Tryz.func71, Tryz.ntmps71
    go_wp2
    go_ret
    exact ⟨rfl, (Ext.refl' _).al _⟩
  · have b0 : (x.stamp_ == s0) = false := by simpa using h
    rw [dec_yes (show stampNe s0 x from h)]
    clear h
    go_enter Tryz.func71, Tryz.ntmps71
    go_wp2
    go_ret
    exact ⟨rfl, (Ext.refl' _).al _⟩

set_option maxHeartbeats 4000000 in
theorem idxhi_any (gx : Nat) (s0 : Int) (A : Option Addr) (n c : Nat) (l : List Wrote) (w : World) (hg : w.cell? ⟨gx, 0, none⟩ = some (.int .i64 s0)) (hgb : gx < w.heap.size) (S : Nat → Prop) (hs : SlR Wrote.R 3 w S A n l) (hm : n ≤ 9223372036854775807) :
    Calls Tryz.prog 102 #[.slice A n c, .func (.func 71) #[] #[.pointer (some ⟨gx, 0, none⟩)]] w fun e w' => ∃ i : Int, e = .returned (.int .i64 i) ∧ ((i = -1 ∧ AllTo (fun _ x => (stampNe s0) x) l l.length) ∨ (0 ≤ i ∧ ¬ AllTo (fun _ x => (stampNe s0) x) l l.length)) ∧ Ext w w' := by
  have H := Lib.hid (hs.1)
  have HS := Lib.hid hs
  clear hs
  go_enter Tryz.func102, Tryz.ntmps102
  go_wp2
  go_loopw [8] (fun i wr => ∃ k : Nat, k ≤ n ∧ i = .int .i64 k ∧ AllTo (fun _ x => (stampNe s0) x) l k ∧ Ext w wr) (fun i _ => n - (intOf i).toNat)
  case atStart => exact ⟨0, Nat.zero_le _, rfl, AllTo.zero _ _, Ext.refl' _⟩
  case round =>
    obtain ⟨k, hk, rfl, hup, hx⟩ := hrel
    have HU := Lib.hid hup
    have HX := Lib.hid hx
    clear hup hx
    by_cases hlt : (k : Int) < (n : Int)
    · 
      obtain ⟨b, o, rfl⟩ := HS.out.addr (by omega)
      obtain ⟨x, row, hsk, -, hrw, hc⟩ := (HS.out.ext Wrote.R_good HX.out).at_ (k := k) (by omega)
      have HRW := Lib.hid hrw
      obtain ⟨A0, n0, c0, rfl⟩ := Wrote.R_cells hrw
      have k0 := hc 0 (by omega)
      have k1 := hc 1 (by omega)
      have k2 := hc 2 (by omega)
      simp only [List.getElem?_cons_zero, List.getElem?_cons_succ, Nat.add_zero] at k0 k1 k2
      have HSK := Lib.hid hsk
      clear hsk hc hrw
      go_wp2_with fail
      refine (hiC_any x A0 n0 c0 gx s0 _ (HX.out.co hg) (Nat.lt_of_lt_of_le hgb HX.out.size)).mono ?_
      rintro e w2 ⟨rfl, x2⟩
      have X2 := Lib.hid (HX.out.tr x2)
      clear x2
      by_cases h0 : (stampNe s0) x
      · have H0 := Lib.hid h0
        rw [dec_yes h0]
        clear h0
        go_wp2
        go_roundw
        case rel => exact ⟨k + 1, by omega, by go_num, HU.out.succ HSK.out H0.out, X2.out⟩
        case measure => simp [intOf]; omega
      · have H0 := Lib.hid h0
        rw [dec_no h0]
        clear h0
        go_wp2
        go_ret
        exact ⟨k, rfl, .inr ⟨by omega, fun h => AllTo.not HSK.out (by have a := H.out; omega) (fun q => H0.out q) h⟩, X2.out⟩
    · have e : Hid (k = l.length) := by show k = _; have a := H.out; omega
      go_wp2
      go_ret
      exact ⟨-1, rfl, .inl ⟨rfl, by rw [← e.out]; exact HU.out⟩, HX.out⟩

theorem anyhi_any (gx : Nat) (s0 : Int) (A : Option Addr) (n c : Nat) (l : List Wrote) (w : World) (hg : w.cell? ⟨gx, 0, none⟩ = some (.int .i64 s0)) (hgb : gx < w.heap.size) (S : Nat → Prop) (hs : SlR Wrote.R 3 w S A n l) (hm : n ≤ 9223372036854775807) :
    Calls Tryz.prog 70 #[.slice A n c, .func (.func 71) #[] #[.pointer (some ⟨gx, 0, none⟩)]] w fun e w' => e = .returned (.bool (!dec (AllTo (fun _ x => (stampNe s0) x) l l.length))) ∧ Ext w w' := by
  go_enter Tryz.func70, Tryz.ntmps70
  go_wp2_with fail
  refine (idxhi_any gx s0 _ _ _ _ _ hg hgb _ hs hm).mono ?_
  rintro e w1 ⟨i, rfl, hi, x1⟩
  have X1 := Lib.hid x1
  clear x1
  rcases hi with ⟨rfl, hx⟩ | ⟨hi, hx⟩
  · have HX := Lib.hid hx
    clear hx
    go_wp2
    go_ret
    exact ⟨by rw [dec_yes HX.out]; rfl, X1.out⟩
  · have HX := Lib.hid hx
    clear hx
    go_wp2
    go_ret
    exact ⟨by rw [dec_no HX.out]; rfl, X1.out⟩
theorem isOwner_any (x : Int) (w : World) :
    Calls Tryz.prog 69 #[.int .i64 x] w fun e w' => e = .returned (.bool (decide (1 ≤ x ∧ x ≤ 99))) ∧ w = w' := by
  go_enter Tryz.func69, Tryz.ntmps69
  go_wp2_with (go_at_call 68; refine (within_any _ _ _ _).mono ?_; rintro e w' ⟨rfl, rfl⟩)
  go_ret
  simp

set_option maxRecDepth 8000 in
set_option maxHeartbeats 8000000 in
theorem impl_HistOk (A : Option Addr) (n c : Nat) (l : List Wrote) (w : World) (S : Nat → Prop) (hs : SlR Wrote.R 3 w S A n l) (hm : n ≤ 1048576) (hcp : n ≤ c) (hp : ∀ x ∈ l, x.puts_.length ≤ 1048576) :
    Calls Tryz.prog 34 #[.slice A n c] w fun e w' => e = .returned (.bool (histOk l)) ∧ Ext w w' := by
  have H : Hid (l.length = n) := hs.1
  have HS := Lib.hid hs
  have HP := Lib.hid hp
  have M : Hid (Mine w w []) := Mine.refl w
  clear hs hp
  go_enter Tryz.func34, Tryz.ntmps34
  go_wp2
  go_loopw [7] (fun i wr => ∃ k : Nat, k ≤ n ∧ i = .int .i64 k ∧ Hid (AllTo (hOne l) l k) ∧ Hid (Mine w wr [])) (fun i _ => n - (intOf i).toNat)
  case atStart => exact ⟨0, Nat.zero_le _, rfl, AllTo.zero _ _, M⟩
  case round =>
    clear M
    obtain ⟨k, hk, rfl, HU, M⟩ := hrel
    by_cases hlt : (k : Int) < (n : Int)
    rotate_left
    · have e : k = l.length := by rw [H.out]; omega
      by_cases h2 : (n : Int) ≤ 200
      · have HZ : Hid (histOk l = true) := dec_yes ⟨by rw [H.out]; omega, by rw [← e]; exact HU.out⟩
        have b2 : decide ((n : Int) ≤ 200) = true := decide_eq_true h2
        clear h2 e
        go_wp2
        go_ret
        exact ⟨by rw [HZ.out]; rfl, M.out.ext⟩
      · have HZ : Hid (histOk l = false) := dec_no fun h => h2 (by have := H.out; omega)
        have b2 : decide ((n : Int) ≤ 200) = false := decide_eq_false h2
        clear h2 e
        go_wp2
        go_ret
        exact ⟨by rw [HZ.out]; rfl, M.out.ext⟩
    have HLT : Hid (k < n) := by show _ < _; omega
    have hkc : (k : Int) ≤ (c : Int) := by omega
    obtain ⟨b, o, rfl⟩ := HS.out.addr (by omega)
    obtain ⟨x, A0, n0, c0, hx, hb, q0, q1, q2, hnc, hsl, hl0⟩ := hist_at (HS.out.ext Wrote.R_good M.out.ext) HLT.out
    have HX := Lib.hid hx
    have HSL := Lib.hid hsl
    have HN0 : Hid (n0 ≤ 1048576) := by show _ ≤ _; rw [← hl0]; exact HP.out x (List.mem_of_getElem? hx)
    clear hx hsl hl0
    have NO : ∀ {p : Prop}, (hOne l k x → p) → ¬ p → histOk l = false := fun f g => dec_no fun h => AllTo.not HX.out (by rw [H.out]; exact HLT.out) (fun q => g (f q)) h.2
    have HSLW : Hid (Sl w S 2 A0 n0 (x.puts_.flatMap Row.cells)) := by
      obtain ⟨x5, A5, n5, c5, hx5, hb5, r0, r1, r2, _, hsl5, _⟩ := hist_at HS.out HLT.out
      rw [HX.out] at hx5
      injection hx5 with hx5
      subst hx5
      have e2 := q2
      rw [ext_co M.out.ext r2 hb5] at e2
      injection e2 with e2
      injection e2 with e3 e4 e5
      subst e3 e4
      exact hsl5
    clear HSL
    by_cases h0 : 1 ≤ x.stamp_ ∧ x.stamp_ ≤ 1000000
    rotate_left
    · have d0 : decide (1 ≤ x.stamp_ ∧ x.stamp_ ≤ 1000000) = false := by simpa using h0
      have HZ : Hid (histOk l = false) := NO (fun q => q.1) h0
      clear h0 NO
      go_wp2_with (first | (go_at_call 68; (with_reducible refine (within_any _ _ _ _).mono ?_); rintro e w' ⟨rfl, rfl⟩) | (go_at_call 69; (with_reducible refine (isOwner_any _ _).mono ?_); rintro e w' ⟨rfl, rfl⟩) | (go_at_call 35; (with_reducible refine (impl_RowsOk A0 n0 c0 x.puts_ _ S (HSLW.out.ext M.out.ext) HN0.out).mono ?_); rintro e w' ⟨rfl, x9⟩; replace M := Lib.hid (M.out.on x9); clear x9; rw [h2]) | (go_at_call 70; (with_reducible refine (anyhi_any gx x.stamp_ (some ⟨b, o, none⟩) k c (l.take k) _ ((M.out.box_at 0 rfl).cell 0) (M.out.box_at 0 rfl).lt S ((SlR.pre HS.out (Nat.le_of_lt HLT.out)).ext Wrote.R_good M.out.ext) (by omega)).mono ?_); rintro e w' ⟨rfl, x9⟩; replace M := Lib.hid (M.out.on x9); clear x9; rw [h3]) | ((with_reducible show wpList _ _ _ (⟨_, _, _, _, _, none⟩ :: _) _ _); first | (refine Mine.wp_alloc M.out rfl 132 rfl (.agg #[.int .i64 0, .int .i64 0, .slice none 0 0]) (by kernel_rfl) ?_; intro gx w' M'; (try simp only [Value.cells, Act.put, List.setIfInBounds_toArray, List.set_cons_zero, List.set_cons_succ, List.drop_succ_cons, List.drop_zero, List.take_succ_cons, List.take_zero, putAt, ints_set, ints_push, List.getElem_toArray, List.getElem_cons_zero, List.getElem_cons_succ] at M'); replace M := Lib.hid M'; clear M'; (try simp only [Act.put, List.setIfInBounds_toArray, List.set_cons_zero, List.set_cons_succ, List.drop_succ_cons, List.drop_zero, List.take_succ_cons, List.take_zero, putAt, ints_set, ints_push, List.getElem_toArray, List.getElem_cons_zero, List.getElem_cons_succ])) | (refine Mine.wp_sets M.out rfl 132 _ _ rfl rfl 0 _ rfl rfl _ rfl (Nat.le_of_ble_eq_true rfl) (by simp [Value.oneCell']) (by kernel_rfl) ?_; intro w' M'; (try simp only [Act.put, List.setIfInBounds_toArray, List.set_cons_zero, List.set_cons_succ, List.drop_succ_cons, List.drop_zero, List.take_succ_cons, List.take_zero, putAt, ints_set, ints_push, List.getElem_toArray, List.getElem_cons_zero, List.getElem_cons_succ] at M'); replace M := Lib.hid M'; clear M') | (refine Mine.wp_get M.out rfl _ _ rfl 0 _ rfl rfl _ rfl _ (by first | exact Tryz.underlying3 | exact Tryz.underlying71) (by rfl) ?_; (try simp only [Act.put, List.setIfInBounds_toArray, List.set_cons_zero, List.set_cons_succ, List.drop_succ_cons, List.drop_zero, List.take_succ_cons, List.take_zero, putAt, ints_set, ints_push, List.getElem_toArray, List.getElem_cons_zero, List.getElem_cons_succ]))) | ((with_reducible show wpList _ _ _ (⟨_, .load _ _, _, _, _, some _⟩ :: _) _ _); first | (refine Mine.wp_getg M.out (by rfl) _ _ rfl 0 _ rfl rfl _ rfl _ (by first | exact Tryz.underlying3 | exact Tryz.underlying71) (by rfl) ?_; (try simp only [Act.put, List.setIfInBounds_toArray, List.set_cons_zero, List.set_cons_succ, List.drop_succ_cons, List.drop_zero, List.take_succ_cons, List.take_zero, putAt, ints_set, ints_push, List.getElem_toArray, List.getElem_cons_zero, List.getElem_cons_succ]))))
      go_ret
      exact ⟨by rw [HZ.out]; rfl, M.out.ext⟩
    have d0 : decide (1 ≤ x.stamp_ ∧ x.stamp_ ≤ 1000000) = true := by simpa using h0
    have H0 := Lib.hid h0
    clear h0
    by_cases h1 : 1 ≤ x.who_ ∧ x.who_ ≤ 99
    rotate_left
    · have d1 : decide (1 ≤ x.who_ ∧ x.who_ ≤ 99) = false := by simpa using h1
      have HZ : Hid (histOk l = false) := NO (fun q => q.2.1) h1
      clear h1 NO
      go_wp2_with (first | (go_at_call 68; (with_reducible refine (within_any _ _ _ _).mono ?_); rintro e w' ⟨rfl, rfl⟩) | (go_at_call 69; (with_reducible refine (isOwner_any _ _).mono ?_); rintro e w' ⟨rfl, rfl⟩) | (go_at_call 35; (with_reducible refine (impl_RowsOk A0 n0 c0 x.puts_ _ S (HSLW.out.ext M.out.ext) HN0.out).mono ?_); rintro e w' ⟨rfl, x9⟩; replace M := Lib.hid (M.out.on x9); clear x9; rw [h2]) | (go_at_call 70; (with_reducible refine (anyhi_any gx x.stamp_ (some ⟨b, o, none⟩) k c (l.take k) _ ((M.out.box_at 0 rfl).cell 0) (M.out.box_at 0 rfl).lt S ((SlR.pre HS.out (Nat.le_of_lt HLT.out)).ext Wrote.R_good M.out.ext) (by omega)).mono ?_); rintro e w' ⟨rfl, x9⟩; replace M := Lib.hid (M.out.on x9); clear x9; rw [h3]) | ((with_reducible show wpList _ _ _ (⟨_, _, _, _, _, none⟩ :: _) _ _); first | (refine Mine.wp_alloc M.out rfl 132 rfl (.agg #[.int .i64 0, .int .i64 0, .slice none 0 0]) (by kernel_rfl) ?_; intro gx w' M'; (try simp only [Value.cells, Act.put, List.setIfInBounds_toArray, List.set_cons_zero, List.set_cons_succ, List.drop_succ_cons, List.drop_zero, List.take_succ_cons, List.take_zero, putAt, ints_set, ints_push, List.getElem_toArray, List.getElem_cons_zero, List.getElem_cons_succ] at M'); replace M := Lib.hid M'; clear M'; (try simp only [Act.put, List.setIfInBounds_toArray, List.set_cons_zero, List.set_cons_succ, List.drop_succ_cons, List.drop_zero, List.take_succ_cons, List.take_zero, putAt, ints_set, ints_push, List.getElem_toArray, List.getElem_cons_zero, List.getElem_cons_succ])) | (refine Mine.wp_sets M.out rfl 132 _ _ rfl rfl 0 _ rfl rfl _ rfl (Nat.le_of_ble_eq_true rfl) (by simp [Value.oneCell']) (by kernel_rfl) ?_; intro w' M'; (try simp only [Act.put, List.setIfInBounds_toArray, List.set_cons_zero, List.set_cons_succ, List.drop_succ_cons, List.drop_zero, List.take_succ_cons, List.take_zero, putAt, ints_set, ints_push, List.getElem_toArray, List.getElem_cons_zero, List.getElem_cons_succ] at M'); replace M := Lib.hid M'; clear M') | (refine Mine.wp_get M.out rfl _ _ rfl 0 _ rfl rfl _ rfl _ (by first | exact Tryz.underlying3 | exact Tryz.underlying71) (by rfl) ?_; (try simp only [Act.put, List.setIfInBounds_toArray, List.set_cons_zero, List.set_cons_succ, List.drop_succ_cons, List.drop_zero, List.take_succ_cons, List.take_zero, putAt, ints_set, ints_push, List.getElem_toArray, List.getElem_cons_zero, List.getElem_cons_succ]))) | ((with_reducible show wpList _ _ _ (⟨_, .load _ _, _, _, _, some _⟩ :: _) _ _); first | (refine Mine.wp_getg M.out (by rfl) _ _ rfl 0 _ rfl rfl _ rfl _ (by first | exact Tryz.underlying3 | exact Tryz.underlying71) (by rfl) ?_; (try simp only [Act.put, List.setIfInBounds_toArray, List.set_cons_zero, List.set_cons_succ, List.drop_succ_cons, List.drop_zero, List.take_succ_cons, List.take_zero, putAt, ints_set, ints_push, List.getElem_toArray, List.getElem_cons_zero, List.getElem_cons_succ]))))
      go_ret
      exact ⟨by rw [HZ.out]; rfl, M.out.ext⟩
    have d1 : decide (1 ≤ x.who_ ∧ x.who_ ≤ 99) = true := by simpa using h1
    have H1 := Lib.hid h1
    clear h1
    cases h2 : rowsOk x.puts_
    · have HZ : Hid (histOk l = false) := NO (fun q => q.2.2.1) (by rw [h2]; simp)
      clear NO
      go_wp2_with (first | (go_at_call 68; (with_reducible refine (within_any _ _ _ _).mono ?_); rintro e w' ⟨rfl, rfl⟩) | (go_at_call 69; (with_reducible refine (isOwner_any _ _).mono ?_); rintro e w' ⟨rfl, rfl⟩) | (go_at_call 35; (with_reducible refine (impl_RowsOk A0 n0 c0 x.puts_ _ S (HSLW.out.ext M.out.ext) HN0.out).mono ?_); rintro e w' ⟨rfl, x9⟩; replace M := Lib.hid (M.out.on x9); clear x9; rw [h2]) | (go_at_call 70; (with_reducible refine (anyhi_any gx x.stamp_ (some ⟨b, o, none⟩) k c (l.take k) _ ((M.out.box_at 0 rfl).cell 0) (M.out.box_at 0 rfl).lt S ((SlR.pre HS.out (Nat.le_of_lt HLT.out)).ext Wrote.R_good M.out.ext) (by omega)).mono ?_); rintro e w' ⟨rfl, x9⟩; replace M := Lib.hid (M.out.on x9); clear x9; rw [h3]) | ((with_reducible show wpList _ _ _ (⟨_, _, _, _, _, none⟩ :: _) _ _); first | (refine Mine.wp_alloc M.out rfl 132 rfl (.agg #[.int .i64 0, .int .i64 0, .slice none 0 0]) (by kernel_rfl) ?_; intro gx w' M'; (try simp only [Value.cells, Act.put, List.setIfInBounds_toArray, List.set_cons_zero, List.set_cons_succ, List.drop_succ_cons, List.drop_zero, List.take_succ_cons, List.take_zero, putAt, ints_set, ints_push, List.getElem_toArray, List.getElem_cons_zero, List.getElem_cons_succ] at M'); replace M := Lib.hid M'; clear M'; (try simp only [Act.put, List.setIfInBounds_toArray, List.set_cons_zero, List.set_cons_succ, List.drop_succ_cons, List.drop_zero, List.take_succ_cons, List.take_zero, putAt, ints_set, ints_push, List.getElem_toArray, List.getElem_cons_zero, List.getElem_cons_succ])) | (refine Mine.wp_sets M.out rfl 132 _ _ rfl rfl 0 _ rfl rfl _ rfl (Nat.le_of_ble_eq_true rfl) (by simp [Value.oneCell']) (by kernel_rfl) ?_; intro w' M'; (try simp only [Act.put, List.setIfInBounds_toArray, List.set_cons_zero, List.set_cons_succ, List.drop_succ_cons, List.drop_zero, List.take_succ_cons, List.take_zero, putAt, ints_set, ints_push, List.getElem_toArray, List.getElem_cons_zero, List.getElem_cons_succ] at M'); replace M := Lib.hid M'; clear M') | (refine Mine.wp_get M.out rfl _ _ rfl 0 _ rfl rfl _ rfl _ (by first | exact Tryz.underlying3 | exact Tryz.underlying71) (by rfl) ?_; (try simp only [Act.put, List.setIfInBounds_toArray, List.set_cons_zero, List.set_cons_succ, List.drop_succ_cons, List.drop_zero, List.take_succ_cons, List.take_zero, putAt, ints_set, ints_push, List.getElem_toArray, List.getElem_cons_zero, List.getElem_cons_succ]))) | ((with_reducible show wpList _ _ _ (⟨_, .load _ _, _, _, _, some _⟩ :: _) _ _); first | (refine Mine.wp_getg M.out (by rfl) _ _ rfl 0 _ rfl rfl _ rfl _ (by first | exact Tryz.underlying3 | exact Tryz.underlying71) (by rfl) ?_; (try simp only [Act.put, List.setIfInBounds_toArray, List.set_cons_zero, List.set_cons_succ, List.drop_succ_cons, List.drop_zero, List.take_succ_cons, List.take_zero, putAt, ints_set, ints_push, List.getElem_toArray, List.getElem_cons_zero, List.getElem_cons_succ]))))
      go_ret
      exact ⟨by rw [HZ.out]; rfl, M.out.ext⟩
    cases h3 : dec (AllTo (fun _ y => stampNe x.stamp_ y) (l.take k) (l.take k).length)
    · have HZ : Hid (histOk l = false) := NO (fun q => q.2.2.2) (fun q => dec_false h3 fun i hi y hy => by
        rw [List.getElem?_take] at hy
        split at hy
        · exact q i y (by assumption) hy
        · cases hy)
      clear NO
      go_wp2_with (first | (go_at_call 68; (with_reducible refine (within_any _ _ _ _).mono ?_); rintro e w' ⟨rfl, rfl⟩) | (go_at_call 69; (with_reducible refine (isOwner_any _ _).mono ?_); rintro e w' ⟨rfl, rfl⟩) | (go_at_call 35; (with_reducible refine (impl_RowsOk A0 n0 c0 x.puts_ _ S (HSLW.out.ext M.out.ext) HN0.out).mono ?_); rintro e w' ⟨rfl, x9⟩; replace M := Lib.hid (M.out.on x9); clear x9; rw [h2]) | (go_at_call 70; (with_reducible refine (anyhi_any gx x.stamp_ (some ⟨b, o, none⟩) k c (l.take k) _ ((M.out.box_at 0 rfl).cell 0) (M.out.box_at 0 rfl).lt S ((SlR.pre HS.out (Nat.le_of_lt HLT.out)).ext Wrote.R_good M.out.ext) (by omega)).mono ?_); rintro e w' ⟨rfl, x9⟩; replace M := Lib.hid (M.out.on x9); clear x9; rw [h3]) | ((with_reducible show wpList _ _ _ (⟨_, _, _, _, _, none⟩ :: _) _ _); first | (refine Mine.wp_alloc M.out rfl 132 rfl (.agg #[.int .i64 0, .int .i64 0, .slice none 0 0]) (by kernel_rfl) ?_; intro gx w' M'; (try simp only [Value.cells, Act.put, List.setIfInBounds_toArray, List.set_cons_zero, List.set_cons_succ, List.drop_succ_cons, List.drop_zero, List.take_succ_cons, List.take_zero, putAt, ints_set, ints_push, List.getElem_toArray, List.getElem_cons_zero, List.getElem_cons_succ] at M'); replace M := Lib.hid M'; clear M'; (try simp only [Act.put, List.setIfInBounds_toArray, List.set_cons_zero, List.set_cons_succ, List.drop_succ_cons, List.drop_zero, List.take_succ_cons, List.take_zero, putAt, ints_set, ints_push, List.getElem_toArray, List.getElem_cons_zero, List.getElem_cons_succ])) | (refine Mine.wp_sets M.out rfl 132 _ _ rfl rfl 0 _ rfl rfl _ rfl (Nat.le_of_ble_eq_true rfl) (by simp [Value.oneCell']) (by kernel_rfl) ?_; intro w' M'; (try simp only [Act.put, List.setIfInBounds_toArray, List.set_cons_zero, List.set_cons_succ, List.drop_succ_cons, List.drop_zero, List.take_succ_cons, List.take_zero, putAt, ints_set, ints_push, List.getElem_toArray, List.getElem_cons_zero, List.getElem_cons_succ] at M'); replace M := Lib.hid M'; clear M') | (refine Mine.wp_get M.out rfl _ _ rfl 0 _ rfl rfl _ rfl _ (by first | exact Tryz.underlying3 | exact Tryz.underlying71) (by rfl) ?_; (try simp only [Act.put, List.setIfInBounds_toArray, List.set_cons_zero, List.set_cons_succ, List.drop_succ_cons, List.drop_zero, List.take_succ_cons, List.take_zero, putAt, ints_set, ints_push, List.getElem_toArray, List.getElem_cons_zero, List.getElem_cons_succ]))) | ((with_reducible show wpList _ _ _ (⟨_, .load _ _, _, _, _, some _⟩ :: _) _ _); first | (refine Mine.wp_getg M.out (by rfl) _ _ rfl 0 _ rfl rfl _ rfl _ (by first | exact Tryz.underlying3 | exact Tryz.underlying71) (by rfl) ?_; (try simp only [Act.put, List.setIfInBounds_toArray, List.set_cons_zero, List.set_cons_succ, List.drop_succ_cons, List.drop_zero, List.take_succ_cons, List.take_zero, putAt, ints_set, ints_push, List.getElem_toArray, List.getElem_cons_zero, List.getElem_cons_succ]))))
      go_ret
      exact ⟨by rw [HZ.out]; rfl, M.out.ext⟩
    have HONE : Hid (hOne l k x) := ⟨H0.out, H1.out, h2, fun i y hi hy => dec_true h3 i (by rw [List.length_take, H.out]; omega) y (by rw [List.getElem?_take, if_pos hi]; exact hy)⟩
    clear NO
    go_wp2_with (first | (go_at_call 68; (with_reducible refine (within_any _ _ _ _).mono ?_); rintro e w' ⟨rfl, rfl⟩) | (go_at_call 69; (with_reducible refine (isOwner_any _ _).mono ?_); rintro e w' ⟨rfl, rfl⟩) | (go_at_call 35; (with_reducible refine (impl_RowsOk A0 n0 c0 x.puts_ _ S (HSLW.out.ext M.out.ext) HN0.out).mono ?_); rintro e w' ⟨rfl, x9⟩; replace M := Lib.hid (M.out.on x9); clear x9; rw [h2]) | (go_at_call 70; (with_reducible refine (anyhi_any gx x.stamp_ (some ⟨b, o, none⟩) k c (l.take k) _ ((M.out.box_at 0 rfl).cell 0) (M.out.box_at 0 rfl).lt S ((SlR.pre HS.out (Nat.le_of_lt HLT.out)).ext Wrote.R_good M.out.ext) (by omega)).mono ?_); rintro e w' ⟨rfl, x9⟩; replace M := Lib.hid (M.out.on x9); clear x9; rw [h3]) | ((with_reducible show wpList _ _ _ (⟨_, _, _, _, _, none⟩ :: _) _ _); first | (refine Mine.wp_alloc M.out rfl 132 rfl (.agg #[.int .i64 0, .int .i64 0, .slice none 0 0]) (by kernel_rfl) ?_; intro gx w' M'; (try simp only [Value.cells, Act.put, List.setIfInBounds_toArray, List.set_cons_zero, List.set_cons_succ, List.drop_succ_cons, List.drop_zero, List.take_succ_cons, List.take_zero, putAt, ints_set, ints_push, List.getElem_toArray, List.getElem_cons_zero, List.getElem_cons_succ] at M'); replace M := Lib.hid M'; clear M'; (try simp only [Act.put, List.setIfInBounds_toArray, List.set_cons_zero, List.set_cons_succ, List.drop_succ_cons, List.drop_zero, List.take_succ_cons, List.take_zero, putAt, ints_set, ints_push, List.getElem_toArray, List.getElem_cons_zero, List.getElem_cons_succ])) | (refine Mine.wp_sets M.out rfl 132 _ _ rfl rfl 0 _ rfl rfl _ rfl (Nat.le_of_ble_eq_true rfl) (by simp [Value.oneCell']) (by kernel_rfl) ?_; intro w' M'; (try simp only [Act.put, List.setIfInBounds_toArray, List.set_cons_zero, List.set_cons_succ, List.drop_succ_cons, List.drop_zero, List.take_succ_cons, List.take_zero, putAt, ints_set, ints_push, List.getElem_toArray, List.getElem_cons_zero, List.getElem_cons_succ] at M'); replace M := Lib.hid M'; clear M') | (refine Mine.wp_get M.out rfl _ _ rfl 0 _ rfl rfl _ rfl _ (by first | exact Tryz.underlying3 | exact Tryz.underlying71) (by rfl) ?_; (try simp only [Act.put, List.setIfInBounds_toArray, List.set_cons_zero, List.set_cons_succ, List.drop_succ_cons, List.drop_zero, List.take_succ_cons, List.take_zero, putAt, ints_set, ints_push, List.getElem_toArray, List.getElem_cons_zero, List.getElem_cons_succ]))) | ((with_reducible show wpList _ _ _ (⟨_, .load _ _, _, _, _, some _⟩ :: _) _ _); first | (refine Mine.wp_getg M.out (by rfl) _ _ rfl 0 _ rfl rfl _ rfl _ (by first | exact Tryz.underlying3 | exact Tryz.underlying71) (by rfl) ?_; (try simp only [Act.put, List.setIfInBounds_toArray, List.set_cons_zero, List.set_cons_succ, List.drop_succ_cons, List.drop_zero, List.take_succ_cons, List.take_zero, putAt, ints_set, ints_push, List.getElem_toArray, List.getElem_cons_zero, List.getElem_cons_succ]))))
    go_roundw
    case rel => exact ⟨k + 1, HLT.out, by go_num, Lib.hid (HU.out.succ HX.out HONE.out), Lib.hid (Mine.of M.out.ext)⟩
    case measure => have := HLT.out; simp [intOf]; omega
set_option maxHeartbeats 4000000 in
theorem copyRows_own (A : Option Addr) (n c : Nat) (l : List Row) (w : World) (S : Nat → Prop) (hs : Sl w S 2 A n (l.flatMap Row.cells)) (hm : n ≤ 1048576) :
    Calls Tryz.prog 103 #[.slice A n c] w fun e w' => ∃ B d, e = .returned (.slice B n d) ∧ w'.ownsRow w.heap.size 87 2 (.slice B n d) n (l.flatMap Row.cells) ∧ Ext w w' := by
  go_enter Tryz.func103, Tryz.ntmps103
  go_wp2_with (at_builtin; refine wp_pour rfl _ _ _ rfl w.heap.size 87 _ _ _ Tryz.underlying71 Tryz.infoRow rfl (by omega) (.slice none 0 0) 0 [] rfl (World.ownsRow_nil _ _ _ _) S A n c (l.flatMap Row.cells) rfl hs (row_one l) (by omega) (by unfold maxLen; omega) (Nat.le_refl _) ?_; intro A' c' w' hown hchg hat)
  go_ret
  exact ⟨A', c', by simp, by simpa using hown, hchg.none⟩
set_option maxRecDepth 8000 in
set_option maxHeartbeats 8000000 in
theorem copyHist_m (A : Option Addr) (n c : Nat) (l : List Wrote) (w : World) (S : Nat → Prop) (hs : SlR Wrote.R 3 w S A n l) (hm : n ≤ 1048576) (hp : ∀ x ∈ l, x.puts_.length ≤ 1048576) :
    Calls Tryz.prog 73 #[.slice A n c] w fun e w' => ∃ (B : Option Addr) (d : Nat) (es : List Ent), e = .returned (.slice B n d) ∧ es.map (·.2) = l ∧ Mine w w' (.row 132 3 B n d (es.flatMap ecell) :: es.map erow) := by
  have H : Hid (l.length = n) := hs.1
  have HS := Lib.hid hs
  have HP := Lib.hid hp
  have M : Hid (Mine w w (.row 132 3 none 0 0 (([] : List Ent).flatMap ecell) :: ([] : List Ent).map erow)) := (Mine.refl w).nil 132 3
  clear hs hp
  go_enter Tryz.func73, Tryz.ntmps73
  go_wp2
  go_loopw [3, 8] (fun u i wr => ∃ (k d : Nat) (B : Option Addr) (es : List Ent), k ≤ n ∧ u = .slice B k d ∧ i = .int .i64 k ∧ Hid (es.map (·.2) = l.take k) ∧ Hid (Mine w wr (.row 132 3 B k d (es.flatMap ecell) :: es.map erow))) (fun _ i _ => n - (intOf i).toNat)
  case atStart => exact ⟨0, 0, none, [], Nat.zero_le _, rfl, rfl, rfl, M⟩
  case round =>
    clear M
    obtain ⟨k, d, B, es, hk, rfl, rfl, HE, M⟩ := hrel
    by_cases hlt : (k : Int) < (n : Int)
    rotate_left
    · obtain rfl : k = n := by omega
      go_wp2
      go_ret
      exact ⟨B, d, rfl, es, by rw [HE.out, List.take_of_length_le (by rw [H.out]; exact Nat.le_refl _)], M.out⟩
    have HLT : Hid (k < n) := by show _ < _; omega
    obtain ⟨b, o, rfl⟩ := HS.out.addr (by omega)
    obtain ⟨x, A0, n0, c0, hx, hb, q0, q1, q2, hnc, hsl, hl0⟩ := hist_at (HS.out.ext Wrote.R_good M.out.ext) HLT.out
    have HX := Lib.hid hx
    have HSL := Lib.hid hsl
    have HN0 : Hid (n0 ≤ 1048576) := by show _ ≤ _; rw [← hl0]; exact HP.out x (List.mem_of_getElem? hx)
    clear hx hsl hl0
    skip
    have HEX : Hid (Ext wr wr) := Ext.refl' _
    have HSLW : Hid (Sl w S 2 A0 n0 (x.puts_.flatMap Row.cells)) := by
      obtain ⟨x5, A5, n5, c5, hx5, hb5, r0, r1, r2, _, hsl5, _⟩ := hist_at HS.out HLT.out
      rw [HX.out] at hx5
      injection hx5 with hx5
      subst hx5
      have e2 := q2
      rw [ext_co M.out.ext r2 hb5] at e2
      injection e2 with e2
      injection e2 with e3 e4 e5
      subst e3 e4
      exact hsl5
    clear HSL HEX
    go_wp2_with (first | (go_at_call 103; (with_reducible refine (copyRows_own A0 n0 c0 x.puts_ _ _ (HSLW.out.ext M.out.ext) HN0.out).mono ?_); rintro e w' ⟨Bp, dp, rfl, o9, x9⟩; replace M := Lib.hid (M.out.own o9 x9); clear o9 x9) | (at_builtin; refine Mine.wp_push M.out rfl _ _ 54 rfl 132 _ _ _ Tryz.underlying54 Tryz.infoWrote rfl (by omega) 2 rfl rfl _ _ rfl rfl rfl (by simp [Value.oneCell']) (by omega) (by unfold maxLen; omega) ?_; intro A2 c2 w' M'; (try simp only [Act.put, List.setIfInBounds_toArray, List.set_cons_zero, List.set_cons_succ, List.drop_succ_cons, List.drop_zero, List.take_succ_cons, List.take_zero, putAt, ints_set, ints_push, List.getElem_toArray, List.getElem_cons_zero, List.getElem_cons_succ] at M'); replace M := Lib.hid M'; clear M') | ((with_reducible show wpList _ _ _ (⟨_, _, _, _, _, none⟩ :: _) _ _); first | (refine Mine.wp_alloc M.out rfl 132 rfl (.agg #[.int .i64 0, .int .i64 0, .slice none 0 0]) (by kernel_rfl) ?_; intro gx w' M'; (try simp only [Value.cells, Act.put, List.setIfInBounds_toArray, List.set_cons_zero, List.set_cons_succ, List.drop_succ_cons, List.drop_zero, List.take_succ_cons, List.take_zero, putAt, ints_set, ints_push, List.getElem_toArray, List.getElem_cons_zero, List.getElem_cons_succ] at M'); replace M := Lib.hid M'; clear M'; (try simp only [Act.put, List.setIfInBounds_toArray, List.set_cons_zero, List.set_cons_succ, List.drop_succ_cons, List.drop_zero, List.take_succ_cons, List.take_zero, putAt, ints_set, ints_push, List.getElem_toArray, List.getElem_cons_zero, List.getElem_cons_succ])) | (refine Mine.wp_sets M.out rfl 132 _ _ rfl rfl 0 _ rfl rfl _ rfl (Nat.le_of_ble_eq_true rfl) (by simp [Value.oneCell']) (by kernel_rfl) ?_; intro w' M'; (try simp only [Act.put, List.setIfInBounds_toArray, List.set_cons_zero, List.set_cons_succ, List.drop_succ_cons, List.drop_zero, List.take_succ_cons, List.take_zero, putAt, ints_set, ints_push, List.getElem_toArray, List.getElem_cons_zero, List.getElem_cons_succ] at M'); replace M := Lib.hid M'; clear M') | (refine Mine.wp_get M.out rfl _ _ rfl 0 _ rfl rfl _ rfl _ (by first | exact Tryz.underlying3 | exact Tryz.underlying71) (by rfl) ?_; (try simp only [Act.put, List.setIfInBounds_toArray, List.set_cons_zero, List.set_cons_succ, List.drop_succ_cons, List.drop_zero, List.take_succ_cons, List.take_zero, putAt, ints_set, ints_push, List.getElem_toArray, List.getElem_cons_zero, List.getElem_cons_succ])) | (refine Mine.wp_set M.out rfl _ _ _ rfl rfl 1 _ rfl rfl _ (by (conv => lhs; whnf) <;> rfl) (Nat.le_of_ble_eq_true rfl) (by rfl) (by kernel_rfl) ?_; intro w' M'; (try simp only [Act.put, List.setIfInBounds_toArray, List.set_cons_zero, List.set_cons_succ, List.drop_succ_cons, List.drop_zero, List.take_succ_cons, List.take_zero, putAt, ints_set, ints_push, List.getElem_toArray, List.getElem_cons_zero, List.getElem_cons_succ] at M'); replace M := Lib.hid M'; clear M') | (refine Mine.wp_gets M.out rfl 132 _ rfl 1 _ 3 rfl rfl (Nat.le_of_ble_eq_true rfl) _ Tryz.underlying132 (by rfl) (by kernel_rfl) ?_; (try simp only [Act.put, List.setIfInBounds_toArray, List.set_cons_zero, List.set_cons_succ, List.drop_succ_cons, List.drop_zero, List.take_succ_cons, List.take_zero, putAt, ints_set, ints_push, List.getElem_toArray, List.getElem_cons_zero, List.getElem_cons_succ]))))
    go_roundw
    case rel =>
      refine ⟨k + 1, _, _, es ++ [((Bp, n0, dp), x)], HLT.out, rfl, by go_num, ?_, Lib.hid ?_⟩
      · show _ = _
        rw [List.map_append, HE.out, List.take_add_one, HX.out]; rfl
      · have M9 := M.out
        have e1 : (es ++ [((Bp, n0, dp), x)]).flatMap ecell = es.flatMap ecell ++ [.int .i64 x.stamp_, .int .i64 x.who_, .slice Bp n0 dp] := by rw [List.flatMap_append]; rfl
        rw [e1, List.map_append]
        refine (M9.sub (List.Sublist.cons_cons _ (List.Sublist.cons _ (List.Sublist.refl _)))).perm ?_
        exact (List.perm_append_comm (l₁ := [erow ((Bp, n0, dp), x)]) (l₂ := .row 132 3 _ _ _ _ :: es.map erow))
    case measure => have := HLT.out; simp [intOf]; omega

end Go.Proofs.YtglplgbhhnmgbaaGreat
