/- A row that is owned, sorted by the library (slices.SortFunc at structs). No condition. -/
import Derived.Test.YtpmfhfpjiebcjaaGreatD00
import Derived.Shelf.SlSortCmp.WholeK
namespace Go.Proofs.YtpmfhfpjiebcjaaGreat
open Go.RowKit Go.Deep Go.Shelf Go.Lib Go.Sort
set_option linter.unnecessarySimpa false
set_option linter.unusedSimpArgs false
set_option linter.unusedVariables false

section
variable {α : Type} [Inhabited α] {enc : α → List Value} {k : Nat}
theorem flatK_list (hk : ∀ x,(enc x).length = k) (d : Array α) : (flatK enc k d).toList = d.toList.flatMap enc:=by
 rcases Nat.eq_zero_or_pos k with h0|h0
 ·subst h0
  have e1 : (flatK enc 0 d).toList = []:=by apply List.eq_nil_of_length_eq_zero;simp
  have e2 : d.toList.flatMap enc = []:=by apply List.eq_nil_of_length_eq_zero;rw [flat_len hk];omega
  rw [e1,e2]
 refine flat_ext hk h0 (by simp) fun i f a hi hf => ?_
 have hi' : i < d.size:=by have:=(List.getElem?_eq_some_iff.1 hi).1;simpa using this
 have ha : d[i]! = a:=by rw [getElem!_pos d i hi'];simpa [hi'] using hi
 have hb : i * k + f < d.size * k:=by have : (i + 1) * k ≤ d.size * k:=Nat.mul_le_mul_right _ hi';rw [Nat.succ_mul] at this;omega
 have e1 : (i * k + f) / k = i:=(blk_iff k i _ h0).1 ⟨by omega,by omega⟩
 have e2 : (i * k + f) % k = f:=by rw [Nat.mod_eq_sub_div_mul,e1];omega
 have hg:=get_flatK enc k d (i * k + f) hb
 rw [e1,e2,ha] at hg
 rw [getElem!_pos (flatK enc k d) _ (by simpa using hb)] at hg
 rw [Array.getElem?_toList,Array.getElem?_eq_getElem (by simpa using hb),hg]
 have hfl : f < (enc a).length:=by rw [hk];exact hf
 rw [getElem!_pos (enc a) f hfl,List.getElem?_eq_getElem hfl]
variable {b w : World} {rs : List Res} {i : Nat} {e : TypeId} {n c g : Nat} {d : Array α}
theorem own_holdsK (hk : ∀ x,(enc x).length = k) {base : Nat} (h : w.ownsRow base e k (.slice (some ⟨g,0,none⟩) n c) n (d.toList.flatMap enc)) (hd : d.size = n) : HoldsK enc k w g 0 d:=by
 intro j hj
 have hj' : j < n * k:=by rw [size_flatK,hd] at hj;exact hj
 have h1:=h.cellAt j hj'
 rw [← flatK_list hk d,Array.getElem?_toList,Array.getElem?_eq_getElem hj] at h1
 rw [Nat.zero_add,h1,getElem!_pos _ j hj]
 exact ⟨rfl,h.frozenAt j⟩
theorem Mine.sortedK (M : Mine b w rs) (hk : ∀ x,(enc x).length = k) (hi : rs[i]? = some (.row e k (some ⟨g,0,none⟩) n c (d.toList.flatMap enc))) (hd : d.size = n) (m : Nat) (d' : Array α) (os : Array Obj) (hd' : d'.size = n) :
  Mine b (sortWorldK enc k w g 0 m d' os) (rs.set i (.row e k (some ⟨g,0,none⟩) n c (d'.toList.flatMap enc))):=by
 have hr:=M.row_at i hi
 have hlt:=(hr.lt g rfl).2
 have hother : ∀ j,j < w.heap.size → j ≠ g → (sortWorldK enc k w g 0 m d' os).heap[j]? = w.heap[j]?:=fun j hj hne => by
  unfold sortWorldK
  rw [heap_grow_old _ _ (by simpa [putRowK] using hj)]
  simp [putRowK,putRow,mapBlock,Sort.ahead,Array.getElem?_modify,Ne.symm hne]
 have hC : Chg (fun j => j = g) w (sortWorldK enc k w g 0 m d' os):=⟨rfl,rfl,rfl,by simp [sortWorldK,putRowK],fun j hj hn => hother j hj hn⟩
 refine M.swap hi hC (fun j hj => by rw [hj];rfl) ?_ fun j hj => .inl hj
 show World.ownsRow _ _ _ _ _ _ _
 refine ⟨by rw [flat_len hk];simp [hd'],?_⟩
 rcases hr.2 with ⟨hv,h0⟩|⟨g',cap,cur,hv,hb,hh,hnc,hcm,hcs,htake⟩
 ·cases hv
 injection hv with h1 h2 h3
 injection h1 with h1
 injection h1 with h1
 subst h1 h3
 refine .inr ⟨g,c,putCells id 0 (flatK enc k d') cur,rfl,hb,?_,hnc,hcm,by simp [putCells,hcs],?_⟩
 ·unfold sortWorldK
  rw [heap_grow_old _ _ (by simpa [putRowK] using hlt)]
  simp [putRowK,putRow,mapBlock,Sort.ahead,Array.getElem?_modify,hh,onCells]
 ·rw [← flatK_list hk d']
  have hsz : (flatK enc k d').size = n * k:=by simp [hd']
  have hle : n * k ≤ c * k:=Nat.mul_le_mul_right _ hnc
  have hps : (putCells id 0 (flatK enc k d') cur).size = c * k:=by simp [putCells,hcs]
  have hpl : (putCells id 0 (flatK enc k d') cur).toList.length = c * k:=by simpa using hps
  apply List.ext_getElem?
  intro j
  by_cases hj : j < n * k
  ·rw [List.getElem?_take_of_lt hj,Array.getElem?_toList,Array.getElem?_toList,Array.getElem?_eq_getElem (by rw [hps];omega),Array.getElem?_eq_getElem (by rw [hsz];exact hj)]
   have hjc : j < cur.size:=by omega
   simp [putCells,hsz,hj,getElem!_pos,hd']
  ·rw [List.getElem?_take_eq_none (by omega),List.getElem?_eq_none (by rw [Array.length_toList,hsz];omega)]
end
end Go.Proofs.YtpmfhfpjiebcjaaGreat
