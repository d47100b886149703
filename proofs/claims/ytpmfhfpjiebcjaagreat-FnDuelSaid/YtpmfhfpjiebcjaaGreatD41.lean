/- StateAt of the program. No condition but lengths. -/
import Derived.Test.YtpmfhfpjiebcjaaGreatD00
import Derived.Test.YtpmfhfpjiebcjaaGreatD22
import Derived.Test.YtpmfhfpjiebcjaaGreatD28
namespace Go.Proofs.YtpmfhfpjiebcjaaGreat
open Go.RowKit Go.Deep
set_option linter.unnecessarySimpa false
set_option linter.unusedSimpArgs false
set_option linter.unusedVariables false

theorem erow_sl {b w : World} {rs : List Res} (M : Mine b w rs) {es : List Ent} {p : Ent} (hs : ∀ r ∈ es.map erow,r ∈ rs) (hp : p ∈ es) : Sl w (fun _ => True) 2 p.1.1 p.1.2.1 (p.2.puts_.flatMap Row.cells):=by
 obtain ⟨i,hi⟩:=List.mem_iff_getElem?.1 (hs _ (List.mem_map.2 ⟨p,hp,rfl⟩))
 exact M.row_sl i hi
theorem state_no2 {cells : List Int} {l : List Wrote} {N : Int} (h : ¬ (valsOk cells = true ∧ histOk l = true)) : stateOf cells l N = []:=by unfold stateOf;rw [dec_no h];rfl
set_option maxRecDepth 8000 in
set_option maxHeartbeats 8000000 in
theorem impl_StateAt (A0 : Option Addr) (n0 c0 : Nat) (cells : List Int) (A : Option Addr) (n c : Nat) (l : List Wrote) (N : Int) (w : World) (S0 S : Nat → Prop) (hs0 : Sl w S0 1 A0 n0 (ints cells)) (hm0 : n0 ≤ 1048576) (hs : SlR Wrote.R 3 w S A n l) (hm : n ≤ 1048576) (hcp : n ≤ c) (hp : ∀ x ∈ l,x.puts_.length ≤ 1048576) :
  Calls Tryz.prog 68 #[.slice A0 n0 c0,.slice A n c,.int .i64 N] w fun e w' => ∃ B m d,e = .returned (.slice B m d) ∧ w'.ownsRow w.heap.size 3 1 (.slice B m d) m (ints (stateOf cells l N)) ∧ Ext w w':=by
 have H : Hid (l.length = n):=hs.1
 have HS0:=Lib.hid hs0
 have HS:=Lib.hid hs
 have HP:=Lib.hid hp
 clear hs hs0 hp
 have M : Hid (Mine w w []):=Mine.refl w
 cases hv : valsOk cells
 ·have HN : Hid (stateOf cells l N = []):=state_no2 fun h => by rw [hv] at h;exact absurd h.1 (by simp)
  go_enter Tryz.func68,Tryz.ntmps68
  go_wp2_with (first|(go_at_call 64;(with_reducible refine (areValues_any _ _ _ cells _ S0 (HS0.out.ext M.out.ext) hm0).mono ?_);rintro e w' ⟨rfl,rfl⟩;rw [hv]))
  go_ret
  have M9:=M.out.nil 3 1
  rw [HN.out]
  exact ⟨_,0,0,rfl,M9.row_at 0 rfl,M9.ext⟩
 cases hok : histOk l
 ·have HN : Hid (stateOf cells l N = []):=state_no2 fun h => by rw [hok] at h;exact absurd h.2 (by simp)
  go_enter Tryz.func68,Tryz.ntmps68
  go_wp2_with (first|(go_at_call 64;(with_reducible refine (areValues_any _ _ _ cells _ S0 (HS0.out.ext M.out.ext) hm0).mono ?_);rintro e w' ⟨rfl,rfl⟩;rw [hv])|(go_at_call 66;(with_reducible refine (impl_HistOk A n c l _ S (HS.out.ext Wrote.R_good M.out.ext) hm hcp HP.out).mono ?_);rintro e w' ⟨rfl,x9⟩;replace M:=Lib.hid (M.out.on x9);clear x9;rw [hok]))
  go_ret
  have M9:=M.out.nil 3 1
  rw [HN.out]
  exact ⟨_,0,0,rfl,M9.row_at 0 rfl,M9.ext⟩
 have HV:=Lib.hid hv
 have HOK:=Lib.hid hok
 have HC8:=Lib.hid (valsOk_len hv)
 have HN0:=Lib.hid HS0.out.len
 go_enter Tryz.func68,Tryz.ntmps68
 go_wp2_with (first|(go_at_call 64;(with_reducible refine (areValues_any _ _ _ cells _ S0 (HS0.out.ext M.out.ext) hm0).mono ?_);rintro e w' ⟨rfl,rfl⟩;rw [hv])|(go_at_call 66;(with_reducible refine (impl_HistOk A n c l _ S (HS.out.ext Wrote.R_good M.out.ext) hm hcp HP.out).mono ?_);rintro e w' ⟨rfl,x9⟩;replace M:=Lib.hid (M.out.on x9);clear x9;rw [hok])|(go_at_call 108;(with_reducible refine (copyHist_m A n c l _ S (HS.out.ext Wrote.R_good M.out.ext) hm HP.out).mono ?_);rintro e w' ⟨Bh,dh,es,rfl,hes,M9⟩;have M8:=M.out.call M9;rw [List.append_nil] at M8;replace M:=Lib.hid M8;have HES:=Lib.hid hes;clear hes M8 M9)|fail)
 clear hv hok
 have HFN : Hid (∀ x ∈ es,entFine x):=fun x hx => by
  obtain ⟨i,hi⟩:=List.mem_iff_getElem?.1 (show x.2 ∈ l by rw [← HES.out];exact List.mem_map.2 ⟨x,hx,rfl⟩)
  exact (hist_one HOK.out hi).1
 refine (M.out.sortEnts (i:=0) rfl HFN.out hm).mono ?_
 rintro e w1 ⟨rfl,es2,hpm,hsr,M9⟩
 have M8 : Mine w w1 (.row 53 3 Bh n dh (es2.flatMap ecell)::es2.map erow):=Mine.perm M9 (List.Perm.cons _ (hpm.symm.map erow))
 replace M:=Lib.hid M8
 have HPM : Hid ((es2.map (·.2)).Perm l):=by show List.Perm _ _;rw [← HES.out];exact hpm.map _
 have HSR : Hid ((es2.map (·.2)).Pairwise (fun x y => ¬ y.stamp_ < x.stamp_)):=List.pairwise_map.2 hsr
 clear M8 M9 hpm hsr HFN
 have HP2 : Hid (∀ p ∈ es2,p.2.puts_.length ≤ 1048576):=fun p hp => HP.out p.2 (HPM.out.subset (List.mem_map.2 ⟨p,hp,rfl⟩))
 have HL2 : Hid ((es2.map (·.2)).length = n):=by show _ = _;rw [HPM.out.length_eq,H.out]
 go_wp2_with fail
 refine (copyInts_any A0 n0 c0 cells _ S0 (HS0.out.ext M.out.ext) hm0).mono ?_
 rintro e w2 ⟨B,d,rfl,o2,x2⟩
 replace M:=Lib.hid (M.out.own o2 x2)
 clear o2 x2
 obtain ⟨L,hL⟩ : ∃ L,L = es2.map (·.2):=⟨_,rfl⟩
 have HL:=Lib.hid hL
 rw [← hL] at HPM HSR HL2
 clear hL
 go_wp2
 go_loopw [8,27] (fun u i wr => ∃ (k m d : Nat) (B : Option Addr),k ≤ n ∧ u = .slice B m d ∧ i = .int .i64 k ∧ Hid (Mine w wr (.row 3 1 B m d (ints (runTo L N cells k))::.row 53 3 Bh n dh (es2.flatMap ecell)::es2.map erow))) (fun _ i _ => n - (intOf i).toNat)
 case atStart => exact ⟨0,n0,d,B,Nat.zero_le _,rfl,rfl,M⟩
 case round =>
  clear M
  obtain ⟨k,m,d,B,hk,rfl,rfl,M⟩:=hrel
  have hm8 : m ≤ 8:=by have h:=M.out.len1 0 rfl;rw [ints_length] at h;have:=runTo_le (L:=L) (N:=N) (cells:=cells) (by rw [HC8.out];exact Nat.le_refl _) k;omega
  by_cases hlt : (k : Int) < (n : Int)
  rotate_left
  ·have e : Hid (k = L.length):=by show k = _;rw [HL2.out];omega
   go_wp2
   go_ret
   have M9:=M.out
   rw [e.out,← state_run HV.out HOK.out HPM.out (by first|exact HSR.out|exact HSR.out.imp fun {a b} q => Int.not_lt.2 q) N] at M9
   exact ⟨_,_,_,rfl,M9.row_at 0 rfl,M9.ext⟩
  have HLT : Hid (k < n):=by show _ < _;omega
  obtain ⟨gh,rfl⟩:=M.out.addr 1 rfl (by omega)
  obtain ⟨p,hp⟩ : ∃ p,es2[k]? = some p:=⟨_,List.getElem?_eq_getElem (by have h:=HL2.out;rw [HL.out,List.length_map] at h;omega)⟩
  have HMEM : Hid (p ∈ es2):=List.mem_of_getElem? hp
  have HN1:=Lib.hid (HP2.out p HMEM.out)
  have HX : Hid (L[k]? = some p.2):=by show _ = _;rw [HL.out,List.getElem?_map,hp];rfl
  have HF : Hid (∀ q,q < (ecell p).length → (es2.flatMap ecell)[k * 3 + q]? = (ecell p)[q]?):=fun q hq => flat_get ecell_length es2 k q p hp hq
  have HLEN : Hid (p.2.puts_.length = p.1.2.1):=(erow_sl M.out (fun r hr => List.mem_cons_of_mem _ (List.mem_cons_of_mem _ hr)) HMEM.out).flen Row.cells_length (by omega)
  obtain ⟨⟨Ap,np,dp⟩,x⟩:=p
  simp only [ecell] at HF
  simp only at HN1 HX HLEN
  clear hp
  by_cases hle : x.stamp_ ≤ N
  rotate_left
  ·have bl : decide (x.stamp_ ≤ N) = false:=decide_eq_false hle
   have HLE:=Lib.hid hle
   clear hle
   go_wp2_with (first|((with_reducible show wpList _ _ _ (⟨_,_,_,_,_,none⟩::_) _ _);first|((first|refine Mine.wp_getrs M.out rfl 53 _ rfl 1 _ rfl rfl [.int .i64 x.stamp_,.int .i64 x.who_,.slice Ap np dp] HF.out _ Tryz.underlying53 (by rfl) (by kernel_rfl) ?_|refine zG M.out 0 ?_);(try simp only [zr_,zm_]))|(refine Mine.wp_alloc M.out rfl 53 rfl (.agg #[.int .i64 0,.int .i64 0,.slice none 0 0]) (by kernel_rfl) ?_;intro gx w' M';(try simp only [Value.cells,zr_,zm_] at M');replace M:=Lib.hid M';clear M';(try simp only [zr_,zm_]))|(refine zSs M.out 53 0 ?_;intro w' M';(try simp only [zr_,zm_] at M');replace M:=Lib.hid M';clear M')))
   go_roundw
   case rel => exact ⟨k + 1,m,d,B,HLT.out,rfl,by go_num,Lib.hid (by rw [runTo_no HX.out HLE.out];exact M.out.tail)⟩
   case measure => have:=HLT.out;simp [intOf];omega
  have bl : decide (x.stamp_ ≤ N) = true:=decide_eq_true hle
  have HLE:=Lib.hid hle
  clear hle
  go_wp2_with (first|(go_at_call 73;(with_reducible refine (impl_Overlay B m d (runTo L N cells k) Ap np dp x.puts_ _ _ (M.out.row_sl 1 rfl) (by omega) _ (erow_sl M.out (fun r hr => List.mem_cons_of_mem _ (List.mem_cons_of_mem _ (List.mem_cons_of_mem _ hr))) HMEM.out) (by have h1:=HLEN.out;have h2:=HN1.out;omega)).mono ?_);rintro e w5 ⟨B5,m5,d5,rfl,o5,x5⟩;rw [← runTo_yes (cells:=cells) HX.out HLE.out] at o5;replace M:=Lib.hid (M.out.own o5 x5);clear o5 x5)|((with_reducible show wpList _ _ _ (⟨_,_,_,_,_,none⟩::_) _ _);first|((first|refine Mine.wp_getrs M.out rfl 53 _ rfl 1 _ rfl rfl [.int .i64 x.stamp_,.int .i64 x.who_,.slice Ap np dp] HF.out _ Tryz.underlying53 (by rfl) (by kernel_rfl) ?_|refine zG M.out 0 ?_);(try simp only [zr_,zm_]))|(refine Mine.wp_alloc M.out rfl 53 rfl (.agg #[.int .i64 0,.int .i64 0,.slice none 0 0]) (by kernel_rfl) ?_;intro gx w' M';(try simp only [Value.cells,zr_,zm_] at M');replace M:=Lib.hid M';clear M';(try simp only [zr_,zm_]))|(refine zSs M.out 53 0 ?_;intro w' M';(try simp only [zr_,zm_] at M');replace M:=Lib.hid M';clear M')))
  go_roundw
  case rel => exact ⟨k + 1,m5,d5,B5,HLT.out,rfl,by go_num,Lib.hid (M.out.sub (sk_ (sd_ (sd_ s1_))))⟩
  case measure => have:=HLT.out;simp [intOf];omega

end Go.Proofs.YtpmfhfpjiebcjaaGreat
