/- DuelTrue of the reference: right. Conditions: what is asked for holds. -/
import Derived.Test.YtpmfhfpjiebcjaaGreatD24
import Derived.Test.YtpmfhfpjiebcjaaGreatD04
import Derived.Test.YtpmfhfpjiebcjaaGreatD00
namespace Go.Proofs.YtpmfhfpjiebcjaaGreat
open Go.RowKit Go.Deep
set_option linter.unnecessarySimpa false
set_option linter.unusedSimpArgs false
set_option linter.unusedVariables false

section
variable {P : Program} {md : Region.Mode} {l : List Oper} {Q : Exit → Act → World → Prop} {S : World → Prop} {n f : Nat} {listed : Array Bool} {a : Act} {w : World}
/-- As HQ.take,of an operation whose guard lets it run. -/
theorem HQ.takeg {i : Nat} {oi : Oper} (hi : l[i]? = some oi) (hB : headB md l n = true) (hf : Region.free md l.toArray listed i = true) (hr : (Region.ready md l.toArray listed).contains i = true) (hin : i < n) (hw : Region.wanted oi (yielded l.toArray a.tmps) = true)
  (hQ : ∀ v c a w,Q (.panic c) (a.put oi.dst v) w → Q (.panic c) a w) (h : ∀ K : Act → Prop,(∀ a',HQ P md l Q S n f (listed.setIfInBounds i true) a' w → K a') → Reads P oi a S K) : HQ P md l Q S n (f + 1) listed a w:=by
 intro inv hS
 simp only [headB,Bool.and_eq_true,decide_eq_true_eq] at hB
 obtain ⟨⟨⟨hsel,hn⟩,hs⟩,hc⟩:=hB
 obtain ⟨v,hv,hK⟩:=h (fun a' => HQ P md l Q S n f (listed.setIfInBounds i true) a' w) fun _ h => h
 have hi' : l.toArray[i]? = some oi:=by simpa using hi
 have hr' : i ∈ Region.ready md l.toArray listed:=by simpa using hr
 exact wpHead_first hi' (Region.noSelect_spec hsel) hs hc hn hin (fun listed' a' w' hL => seqB_ready hL.1) (fun c a w => hQ v c a w) f listed a w inv (Region.free_spec hi' hf) hr' (.inl ⟨hw,hv⟩) hS (hK (inv.set hr' hin) hS)
/-- An operation whose guard does not let it run. -/
theorem HQ.skip {i : Nat} {oi : Oper} (hi : l[i]? = some oi) (hB : headB md l n = true) (hf : Region.free md l.toArray listed i = true) (hr : (Region.ready md l.toArray listed).contains i = true) (hin : i < n) (hw : Region.wanted oi (yielded l.toArray a.tmps) = false)
  (hQ : ∀ v c a w,Q (.panic c) (a.put oi.dst v) w → Q (.panic c) a w) (h : HQ P md l Q S n f (listed.setIfInBounds i true) (a.put oi.dst undef) w) : HQ P md l Q S n (f + 1) listed a w:=by
 intro inv hS
 simp only [headB,Bool.and_eq_true,decide_eq_true_eq] at hB
 obtain ⟨⟨⟨hsel,hn⟩,hs⟩,hc⟩:=hB
 have hi' : l.toArray[i]? = some oi:=by simpa using hi
 have hr' : i ∈ Region.ready md l.toArray listed:=by simpa using hr
 exact wpHead_first hi' (Region.noSelect_spec hsel) hs hc hn hin (fun listed' a' w' hL => seqB_ready hL.1) (fun c a w => hQ undef c a w) f listed a w inv (Region.free_spec hi' hf) hr' (.inr ⟨hw,rfl⟩) hS (h (inv.set hr' hin) hS)
end

set_option maxRecDepth 8000 in
set_option maxHeartbeats 16000000 in
theorem spec_DuelTrue (A0 : Option Addr) (n0 c0 : Nat) (cells : List Int) (m : Mem) (xs : List JobRun) (h : List Wrote) (AM : Option Addr) (nm cm : Nat) (AJ : Option Addr) (nj cj : Nat) (AH : Option Addr) (nh ch : Nat) (w : World) (S0 : Nat → Prop) (hs0 : Sl w S0 1 A0 n0 (ints cells)) (hm0 : n0 ≤ 1048576) (S : Nat → Prop) (hsM : Sl w S 3 AM nm (m.cells_.flatMap Word.cells)) (hnm : nm ≤ 1048576) (hsJ : SlR JobRun.R 18 w S AJ nj xs) (hnj : nj ≤ 1048576) (hsH : SlR Wrote.R 3 w S AH nh h) (hnh : nh ≤ 1048576) (hcp : nh ≤ ch) (hpp : ∀ x ∈ h,x.puts_.length ≤ 1048576) (v1 : valsOk cells = true) (v2 : memOk m = true) (v3 : histOk h = true) (v4 : ∀ x ∈ xs,rowsOk x.seen_ = true ∧ ∀ r ∈ x.seen_,(0 ≤ r.cell_ ∧ r.cell_ ≤ 7) ∧ (stateOf cells h x.rv_)[r.cell_.toNat]? = some r.val_) (v5 : (∀ x ∈ xs,isDone x) → m.cells_.map (·.val_) = stateOf cells h m.clock_) :
  Calls Tryz.prog 20 #[.slice A0 n0 c0,.agg #[.int .i64 m.clock_,.slice AM nm cm,.slice AJ nj cj,.slice AH nh ch]] w fun e w' => e = .returned (.bool true) ∧ Ext w w':=by
 have hl0 : cells.length = n0:=hs0.len
 have hlM : m.cells_.length = nm:=hsM.flen Word.cells_length (by omega)
 have hlJ : xs.length = nj:=hsJ.1
 have hlH : h.length = nh:=hsH.1
 have H0:=Lib.hid hs0
 have HM:=Lib.hid hsM
 have HJ:=Lib.hid hsJ
 have HH_:=Lib.hid hsH
 have HP:=Lib.hid hpp
 have V1:=Lib.hid v1
 have V2:=Lib.hid v2
 have V3:=Lib.hid v3
 have V4:=Lib.hid v4
 have V5:=Lib.hid v5
 clear hs0 hsM hsJ hsH hpp v1 v2 v3 v4 v5
 have M:=Lib.hid (Mine.refl w)
 go_enter Tryz.func20,Tryz.ntmps20
 go_wp2_with (first|(go_at_call 58;(with_reducible refine (spec_MemOk m AM nm cm _ S (by omega) (HM.out.ext M.out.ext)).mono ?_);rintro e w' ⟨rfl,x9⟩;replace M:=Lib.hid (M.out.on x9);clear x9;rw [V2.out])|(go_at_call 59;(with_reducible refine (spec_HistOk AH nh ch h _ S (HH_.out.ext Wrote.R_good M.out.ext) hnh HP.out).mono ?_);rintro e w' ⟨rfl,x9⟩;replace M:=Lib.hid (M.out.on x9);clear x9;rw [V3.out])|(go_at_call 55;(with_reducible refine (l3Vals_any A0 n0 c0 cells _ S0 (H0.out.ext M.out.ext) hm0).mono ?_);rintro e w' ⟨rfl,rfl⟩;rw [V1.out])|((with_reducible show wpList _ _ _ (⟨_,_,_,_,_,none⟩::_) _ _);first|(refine Mine.wp_box M.out rfl 31 _ rfl _ rfl ?_;intro ga w' M';(try simp only [zr_,zm_] at M');replace M:=Lib.hid M';clear M';(try simp only [zr_,zm_]))|((first|refine zGs M.out 27 0 2 ?_|refine zG M.out 0 ?_);(try simp only [zr_,zm_])))|((with_reducible show wpList _ _ _ (⟨_,.load _ _,_,_,_,some _⟩::_) _ _);first|((first|refine Mine.wp_getsg M.out (by rfl) 27 _ rfl 0 _ 2 rfl rfl (Nat.le_of_ble_eq_true rfl) _ Tryz.underlying27 (by rfl) (by kernel_rfl) ?_|refine zGg M.out 0 ?_);(try simp only [zr_,zm_]))))
 go_loopw [5] (fun i wr => ∃ k : Nat,k ≤ nj ∧ i = .int .i64 k ∧ Hid (Mine w wr [.box ga 31 #[.int .i64 m.clock_,.slice AM nm cm,.slice AJ nj cj,.slice AH nh ch]])) (fun i _ => nj - (intOf i).toNat)
 case atStart => exact ⟨0,Nat.zero_le _,rfl,M⟩
 case round =>
  clear M
  obtain ⟨k,hk,rfl,M⟩:=hrel
  by_cases hlt : (k : Int) < (nj : Int)
  rotate_left
  ·skip
   cases hd : dec (AllTo (fun _ x => isDone x) xs xs.length)
   ·skip
    go_wp2_with (first|((with_reducible show wpList _ _ _ (⟨_,_,_,_,_,none⟩::_) _ _);first|(refine zG M.out 0 ?_;(try simp only [zr_,zm_]))))
    refine Mine.region_head M.out 16 (by kernel_rfl) (by kernel_rfl) ?_
    intro w' M'
    replace M:=Lib.hid M'
    clear M'
    refine zTL 0 ?_;intro K hK;(first|(refine zDs 31 0 4 ?_;(try simp only [zr_,zm_]);go_big_quiet_on)|(refine zX ?_;(try simp only [zs_,zl_]);go_big_quiet_on))
    refine HQ.noisy (rs:=[1]) (by kernel_rfl) (by simp) (AllG.cons rfl (Nat.le_of_ble_eq_true rfl) (fun K hK => ?_) AllG.nil)
    go_simp
    go_at_call 61
    refine (spec_DuelOver m.clock_ AM nm cm AJ nj cj AH nh ch xs _ S (HJ.out.ext JobRun.R_good M.out.ext) hnj).mono ?_
    rintro e w5 ⟨rfl,x9⟩
    replace M:=Lib.hid (M.out.on x9)
    clear x9
    rw [hd]
    refine hK.out _ _ (M.out) ?_
    clear hK K
    (try simp only [zs_,zl_])
    refine zTL 2 ?_;intro K hK;(first|(refine zX ?_;(try simp only [zs_,zl_]);go_big_quiet_on))
    refine zTL 3 ?_;intro K hK;(first|(refine zX ?_;(try simp only [zs_,zl_]);go_big_quiet_on))
    refine HQ.skip (i:=4) rfl (by kernel_rfl) (by kernel_rfl) (by kernel_rfl) (Nat.le_of_ble_eq_true rfl) (by rfl) (fun _ _ _ _ h => h) ?_
    (try simp only [zs_,zl_])
    refine HQ.skip (i:=5) rfl (by kernel_rfl) (by kernel_rfl) (by kernel_rfl) (Nat.le_of_ble_eq_true rfl) (by rfl) (fun _ _ _ _ h => h) ?_
    (try simp only [zs_,zl_])
    refine HQ.skip (i:=6) rfl (by kernel_rfl) (by kernel_rfl) (by kernel_rfl) (Nat.le_of_ble_eq_true rfl) (by rfl) (fun _ _ _ _ h => h) ?_
    (try simp only [zs_,zl_])
    refine HQ.skip (i:=7) rfl (by kernel_rfl) (by kernel_rfl) (by kernel_rfl) (Nat.le_of_ble_eq_true rfl) (by rfl) (fun _ _ _ _ h => h) ?_
    (try simp only [zs_,zl_])
    refine HQ.skip (i:=8) rfl (by kernel_rfl) (by kernel_rfl) (by kernel_rfl) (Nat.le_of_ble_eq_true rfl) (by rfl) (fun _ _ _ _ h => h) ?_
    (try simp only [zs_,zl_])
    refine HQ.skip (i:=9) rfl (by kernel_rfl) (by kernel_rfl) (by kernel_rfl) (Nat.le_of_ble_eq_true rfl) (by rfl) (fun _ _ _ _ h => h) ?_
    (try simp only [zs_,zl_])
    refine HQ.skip (i:=10) rfl (by kernel_rfl) (by kernel_rfl) (by kernel_rfl) (Nat.le_of_ble_eq_true rfl) (by rfl) (fun _ _ _ _ h => h) ?_
    (try simp only [zs_,zl_])
    refine HQ.skip (i:=11) rfl (by kernel_rfl) (by kernel_rfl) (by kernel_rfl) (Nat.le_of_ble_eq_true rfl) (by rfl) (fun _ _ _ _ h => h) ?_
    (try simp only [zs_,zl_])
    refine HQ.skip (i:=12) rfl (by kernel_rfl) (by kernel_rfl) (by kernel_rfl) (Nat.le_of_ble_eq_true rfl) (by rfl) (fun _ _ _ _ h => h) ?_
    (try simp only [zs_,zl_])
    refine HQ.skip (i:=13) rfl (by kernel_rfl) (by kernel_rfl) (by kernel_rfl) (Nat.le_of_ble_eq_true rfl) (by rfl) (fun _ _ _ _ h => h) ?_
    (try simp only [zs_,zl_])
    refine HQ.skip (i:=14) rfl (by kernel_rfl) (by kernel_rfl) (by kernel_rfl) (Nat.le_of_ble_eq_true rfl) (by rfl) (fun _ _ _ _ h => h) ?_
    (try simp only [zs_,zl_])
    refine zTL 15 ?_;intro K hK;(first|(refine zX ?_;(try simp only [zs_,zl_]);go_big_quiet_on))
    refine HQ.end_ (by kernel_rfl) ?_
    simp only [List.drop_succ_cons,List.drop_zero]
    go_wp2
    go_ret
    exact ⟨rfl,M.out.ext⟩
   skip
   ·skip
    go_wp2_with (first|((with_reducible show wpList _ _ _ (⟨_,_,_,_,_,none⟩::_) _ _);first|(refine zG M.out 0 ?_;(try simp only [zr_,zm_]))))
    refine Mine.region_head M.out 16 (by kernel_rfl) (by kernel_rfl) ?_
    intro w' M'
    replace M:=Lib.hid M'
    clear M'
    refine zTL 0 ?_;intro K hK;(first|(refine zDs 31 0 4 ?_;(try simp only [zr_,zm_]);go_big_quiet_on)|(refine zX ?_;(try simp only [zs_,zl_]);go_big_quiet_on))
    refine HQ.noisy (rs:=[1]) (by kernel_rfl) (by simp) (AllG.cons rfl (Nat.le_of_ble_eq_true rfl) (fun K hK => ?_) AllG.nil)
    go_simp
    go_at_call 61
    refine (spec_DuelOver m.clock_ AM nm cm AJ nj cj AH nh ch xs _ S (HJ.out.ext JobRun.R_good M.out.ext) hnj).mono ?_
    rintro e w5 ⟨rfl,x9⟩
    replace M:=Lib.hid (M.out.on x9)
    clear x9
    rw [hd]
    refine hK.out _ _ (M.out) ?_
    clear hK K
    (try simp only [zs_,zl_])
    refine zTL 2 ?_;intro K hK;(first|(refine zX ?_;(try simp only [zs_,zl_]);go_big_quiet_on))
    refine zTL 3 ?_;intro K hK;(first|(refine zX ?_;(try simp only [zs_,zl_]);go_big_quiet_on))
    have hq:=V5.out fun x hx => by
     obtain ⟨q,hq⟩:=List.mem_iff_getElem?.1 hx
     exact dec_true hd q (List.getElem?_eq_some_iff.1 hq).1 x hq
    have HQ5:=Lib.hid hq
    clear hq
    refine HQ.takeg (i:=4) rfl (by kernel_rfl) (by kernel_rfl) (by kernel_rfl) (Nat.le_of_ble_eq_true rfl) (by rfl) (fun _ _ _ _ h => h) ?_
    intro K hK
    (first|((first|refine zDs 27 0 2 ?_|refine zD 0 ?_);(try simp only [zr_,zm_]);go_big_quiet_on)|(refine zX ?_;(try simp only [zs_,zl_]);go_big_quiet_on))
    refine HQ.takeg (i:=5) rfl (by kernel_rfl) (by kernel_rfl) (by kernel_rfl) (Nat.le_of_ble_eq_true rfl) (by rfl) (fun _ _ _ _ h => h) ?_
    intro K hK
    (first|((first|refine zDs 27 0 2 ?_|refine zD 0 ?_);(try simp only [zr_,zm_]);go_big_quiet_on)|(refine zX ?_;(try simp only [zs_,zl_]);go_big_quiet_on))
    refine HQ.takeg (i:=7) rfl (by kernel_rfl) (by kernel_rfl) (by kernel_rfl) (Nat.le_of_ble_eq_true rfl) (by rfl) (fun _ _ _ _ h => h) ?_
    intro K hK
    (first|((first|refine zDs 27 0 2 ?_|refine zD 0 ?_);(try simp only [zr_,zm_]);go_big_quiet_on)|(refine zX ?_;(try simp only [zs_,zl_]);go_big_quiet_on))
    refine HQ.takeg (i:=8) rfl (by kernel_rfl) (by kernel_rfl) (by kernel_rfl) (Nat.le_of_ble_eq_true rfl) (by rfl) (fun _ _ _ _ h => h) ?_
    intro K hK
    (first|((first|refine zDs 27 0 2 ?_|refine zD 0 ?_);(try simp only [zr_,zm_]);go_big_quiet_on)|(refine zX ?_;(try simp only [zs_,zl_]);go_big_quiet_on))
    refine HQ.takeg (i:=9) rfl (by kernel_rfl) (by kernel_rfl) (by kernel_rfl) (Nat.le_of_ble_eq_true rfl) (by rfl) (fun _ _ _ _ h => h) ?_
    intro K hK
    (first|((first|refine zDs 27 0 2 ?_|refine zD 0 ?_);(try simp only [zr_,zm_]);go_big_quiet_on)|(refine zX ?_;(try simp only [zs_,zl_]);go_big_quiet_on))
    refine HQ.takeg (i:=10) rfl (by kernel_rfl) (by kernel_rfl) (by kernel_rfl) (Nat.le_of_ble_eq_true rfl) (by rfl) (fun _ _ _ _ h => h) ?_
    intro K hK
    (first|((first|refine zDs 27 0 2 ?_|refine zD 0 ?_);(try simp only [zr_,zm_]);go_big_quiet_on)|(refine zX ?_;(try simp only [zs_,zl_]);go_big_quiet_on))
    refine HQ.takeg (i:=11) rfl (by kernel_rfl) (by kernel_rfl) (by kernel_rfl) (Nat.le_of_ble_eq_true rfl) (by rfl) (fun _ _ _ _ h => h) ?_
    intro K hK
    (first|((first|refine zDs 27 0 2 ?_|refine zD 0 ?_);(try simp only [zr_,zm_]);go_big_quiet_on)|(refine zX ?_;(try simp only [zs_,zl_]);go_big_quiet_on))
    refine HQ.takeg (i:=12) rfl (by kernel_rfl) (by kernel_rfl) (by kernel_rfl) (Nat.le_of_ble_eq_true rfl) (by rfl) (fun _ _ _ _ h => h) ?_
    intro K hK
    (first|((first|refine zDs 27 0 2 ?_|refine zD 0 ?_);(try simp only [zr_,zm_]);go_big_quiet_on)|(refine zX ?_;(try simp only [zs_,zl_]);go_big_quiet_on))
    refine HQ.noisy (rs:=[6]) (by kernel_rfl) (by simp) (AllG.cons rfl (Nat.le_of_ble_eq_true rfl) (fun K hK => ?_) AllG.nil)
    rw [if_pos (by rfl)]
    go_simp
    go_at_call 63
    refine (spec_Values m AM nm cm _ S (HM.out.ext M.out.ext) hnm V2.out).mono ?_
    rintro e w5 ⟨BV,dv,rfl,o9,x9⟩
    replace M:=Lib.hid (M.out.own o9 x9)
    clear o9 x9
    refine hK.out _ _ (M.out.tail) ?_
    clear hK K
    (try simp only [zs_,zl_])
    refine HQ.noisy (rs:=[13]) (by kernel_rfl) (by simp) (AllG.cons rfl (Nat.le_of_ble_eq_true rfl) (fun K hK => ?_) AllG.nil)
    rw [if_pos (by rfl)]
    go_simp
    go_at_call 60
    refine (spec_StateAt A0 n0 c0 cells AH nh ch h m.clock_ _ S0 S (H0.out.ext M.out.ext) hm0 (HH_.out.ext Wrote.R_good M.out.ext) hnh HP.out).mono ?_
    rintro e w5 ⟨BS,ms,ds,rfl,o9,x9⟩
    replace M:=Lib.hid (M.out.own o9 x9)
    clear o9 x9
    rw [← HQ5.out] at M
    refine hK.out _ _ (M.out.tail.tail) ?_
    clear hK K
    (try simp only [zs_,zl_])
    refine HQ.noisy (rs:=[14]) (by kernel_rfl) (by simp) (AllG.cons rfl (Nat.le_of_ble_eq_true rfl) (fun K hK => ?_) AllG.nil)
    rw [if_pos (by rfl)]
    go_simp
    have hmn : ms = nm:=by have a1:=M.out.len1 0 rfl;have a2:=M.out.len1 1 rfl;omega
    subst hmn
    go_at_call 62
    refine (l7Ints_same _ _ _ _ _ _ _ _ _ (M.out.row_sl 1 rfl) (M.out.row_sl 0 rfl) (by omega)).mono ?_
    rintro e w5 ⟨rfl,x9⟩
    replace M:=Lib.hid (M.out.on x9)
    clear x9
    refine hK.out _ _ (M.out.tail.tail) ?_
    clear hK K
    (try simp only [zs_,zl_])
    refine zTL 15 ?_;intro K hK;(first|(refine zX ?_;(try simp only [zs_,zl_]);go_big_quiet_on))
    refine HQ.end_ (by kernel_rfl) ?_
    simp only [List.drop_succ_cons,List.drop_zero]
    go_wp2
    go_ret
    exact ⟨rfl,M.out.ext⟩
  have HLT : Hid (k < nj):=by show _ < _;omega
  obtain ⟨b,o,rfl⟩:=HJ.out.addr (by omega)
  obtain ⟨x,row,hx,hb,hr,hc⟩:=HJ.out.at_ (k:=k) HLT.out
  have HVX:=Lib.hid (V4.out x (List.mem_of_getElem? hx))
  obtain ⟨As,ns,cs,v1_,rfl,⟨ks,ms0,ss⟩,hcm⟩:=hr
  obtain ⟨Ap,np,cp,Ar,nr,cr,rfl⟩:=Commit.R_cells hcm
  have hls : x.seen_.length = ns:=ss.flen Row.cells_length (by omega)
  have HS9:=Lib.hid ss
  have hrs:=HVX.out.1
  have hns : ns ≤ 1048576:=by have:=rowsOk_len hrs;omega
  have HRG : Hid (w.rangeAt b (o + k * 18) ((.int .i64 x.phase_)::(.int .i64 x.tries_)::(.int .i64 x.rv_)::(.int .i64 x.at_)::(.int .i64 x.stamp_)::(.slice As ns cs)::(.bool x.busy_)::(.int .i64 x.probe_.cell_)::(.int .i64 x.probe_.phase_)::(.int .i64 x.probe_.ver_)::(.int .i64 x.probe_.val_)::(.int .i64 x.commit_.who_)::(.int .i64 x.commit_.rv_)::(.int .i64 x.commit_.phase_)::(.int .i64 x.commit_.at_)::(.int .i64 x.commit_.wv_)::(.slice Ap np cp)::(.slice Ar nr cr)::[])):=fun u v hu => by
   have h3 : u < 18:=by have:=(List.getElem?_eq_some_iff.1 hu).1;simpa using this
   rw [hc u h3];exact hu
  have HRB:=Lib.hid hb
  have HRS:=Lib.hid hrs
  clear hx hb hc ss hcm ks ms0 hrs
  go_wp2_with (first|(go_at_call 56;(with_reducible refine (spec_RowsOk As ns cs x.seen_ _ S (HS9.out.ext M.out.ext) hns).mono ?_);rintro e w' ⟨rfl,x9⟩;replace M:=Lib.hid (M.out.on x9);clear x9;rw [HRS.out])|(go_at_call 60;refine (spec_StateAt A0 n0 c0 cells AH nh ch h x.rv_ _ S0 S (H0.out.ext M.out.ext) hm0 (HH_.out.ext Wrote.R_good M.out.ext) hnh HP.out).mono ?_;rintro e w' ⟨BS,ms,ds,rfl,o9,x9⟩;replace M:=Lib.hid (M.out.own o9 x9);clear o9 x9)|((with_reducible show wpList _ _ _ (⟨_,_,_,_,_,none⟩::_) _ _);first|((first|refine zG M.out 0 ?_|refine zG M.out 1 ?_|refine zG M.out 2 ?_|refine Mine.wp_arg M.out rfl 68 _ rfl _ _ rfl ((.int .i64 x.phase_)::(.int .i64 x.tries_)::(.int .i64 x.rv_)::(.int .i64 x.at_)::(.int .i64 x.stamp_)::(.slice As ns cs)::(.bool x.busy_)::(.int .i64 x.probe_.cell_)::(.int .i64 x.probe_.phase_)::(.int .i64 x.probe_.ver_)::(.int .i64 x.probe_.val_)::(.int .i64 x.commit_.who_)::(.int .i64 x.commit_.rv_)::(.int .i64 x.commit_.phase_)::(.int .i64 x.commit_.at_)::(.int .i64 x.commit_.wv_)::(.slice Ap np cp)::(.slice Ar nr cr)::[]) HRG.out HRB.out _ Tryz.underlying68 (by rfl) (by kernel_rfl) ?_|refine zG M.out 1 ?_);(try simp only [zr_,zm_]))|(refine Mine.wp_alloc M.out rfl 68 rfl (.agg (List.toArray ((.int .i64 0)::(.int .i64 0)::(.int .i64 0)::(.int .i64 0)::(.int .i64 0)::(.slice none 0 0)::(.bool false)::(.int .i64 0)::(.int .i64 0)::(.int .i64 0)::(.int .i64 0)::(.int .i64 0)::(.int .i64 0)::(.int .i64 0)::(.int .i64 0)::(.int .i64 0)::(.slice none 0 0)::(.slice none 0 0)::[]))) (by kernel_rfl) ?_;intro gx w' M';(try simp only [Value.cells,zr_,zm_] at M');replace M:=Lib.hid M';clear M';(try simp only [zr_,zm_]))|(refine zSs M.out 68 0 ?_;intro w' M';(try simp only [zr_,zm_] at M');replace M:=Lib.hid M';clear M')))
  have hst : (stateOf cells h x.rv_).length = ms:=by have:=M.out.len1 0 rfl;rw [ints_length] at this;exact this
  have HST:=Lib.hid hst
  clear hst
  go_loopw [8] (fun i wr => ∃ q : Nat,q ≤ ns ∧ i = .int .i64 q ∧ Hid (Mine w wr [.row 3 1 BS ms ds (ints (stateOf cells h x.rv_)),.box gx 68 (List.toArray ((.int .i64 x.phase_)::(.int .i64 x.tries_)::(.int .i64 x.rv_)::(.int .i64 x.at_)::(.int .i64 x.stamp_)::(.slice As ns cs)::(.bool x.busy_)::(.int .i64 x.probe_.cell_)::(.int .i64 x.probe_.phase_)::(.int .i64 x.probe_.ver_)::(.int .i64 x.probe_.val_)::(.int .i64 x.commit_.who_)::(.int .i64 x.commit_.rv_)::(.int .i64 x.commit_.phase_)::(.int .i64 x.commit_.at_)::(.int .i64 x.commit_.wv_)::(.slice Ap np cp)::(.slice Ar nr cr)::[])),.box ga 31 #[.int .i64 m.clock_,.slice AM nm cm,.slice (some ⟨b,o,none⟩) nj cj,.slice AH nh ch]])) (fun i _ => ns - (intOf i).toNat)
  case atStart => exact ⟨0,Nat.zero_le _,rfl,M⟩
  case round =>
   clear M
   obtain ⟨q,hq,rfl,M⟩:=hrel
   by_cases hlt2 : (q : Int) < (ns : Int)
   rotate_left
   ·skip
    go_wp2_with (first|((with_reducible show wpList _ _ _ (⟨_,_,_,_,_,none⟩::_) _ _);first|(refine zG M.out 1 ?_;(try simp only [zr_,zm_]))))
    go_roundw
    case rel => exact ⟨k + 1,HLT.out,by go_num,Lib.hid (M.out.sub (sd_ (sd_ (sk_ s0_))))⟩
    case measure => have:=HLT.out;simp [intOf];omega
   have HQL : Hid (q < ns):=by show _ < _;omega
   obtain ⟨b2,o2,rfl⟩:=HS9.out.addr (by omega)
   obtain ⟨r,hr,hb2,hc2⟩:=HS9.out.flat_cell (k:=q) Row.cells_length (by omega) HQL.out
   obtain ⟨hcr,hsr⟩:=HVX.out.2 r (List.mem_of_getElem? hr)
   obtain ⟨r0,r1⟩:=r
   simp only at hcr hsr
   obtain ⟨i,rfl⟩ : ∃ i : Nat,r0 = (i : Int):=⟨r0.toNat,by omega⟩
   rw [Int.toNat_natCast] at hsr
   have him : i < ms:=by have h1:=(List.getElem?_eq_some_iff.1 hsr).1;have:=HST.out;omega
   have hi1 : (i : Int) < (ms : Int):=by omega
   have HIS : Hid ((ints (stateOf cells h x.rv_))[i]? = some (.int .i64 r1)):=ints_at hsr
   have HC0 : Hid (w.cell? ⟨b2,o2 + q * 2,none⟩ = some (.int .i64 (i : Int)) ∧ b2 < w.heap.size):=⟨hc2 0 (by omega),hb2⟩
   have HC1 : Hid (w.cell? ⟨b2,o2 + q * 2 + 1,none⟩ = some (.int .i64 r1) ∧ b2 < w.heap.size):=⟨hc2 1 (by omega),hb2⟩
   have HR2 : Hid (w.rangeAt b2 (o2 + q * 2) [.int .i64 (i : Int),.int .i64 r1]):=fun u v hu => by
    have h3 : u < 2:=by have:=(List.getElem?_eq_some_iff.1 hu).1;simpa using this
    rw [hc2 u h3];exact hu
   obtain ⟨gS,rfl⟩:=M.out.addr 0 rfl (by omega)
   clear hr hb2 hc2 hcr hsr
   go_wp2_with (first|((with_reducible show wpList _ _ _ (⟨_,_,_,_,_,none⟩::_) _ _);first|(refine zG M.out 1 ?_;(try simp only [zr_,zm_]))))
   refine Mine.region_quiet M.out (by kernel_rfl) (by kernel_rfl) ?_
   repeat (first|go_big_quiet_skip|(go_big_quiet_want;first|((first|refine zQ 1 ?_|refine Mine.oq_arg 3 _ rfl _ _ HC0.out rfl _ Tryz.underlying3 (by rfl) ?_|refine Mine.oq_arg 3 _ rfl _ _ HC1.out rfl _ Tryz.underlying3 (by rfl) ?_|refine Mine.oq_getr _ _ rfl 0 _ rfl rfl _ (by exact HIS.out) _ (by first|exact Tryz.underlying3) (by rfl) ?_);(try simp only [zr_,zm_]);go_big_quiet_on)|(unfold Oper.quiet;apply Exists.intro;refine ⟨fun wq hq => ?_,?_⟩;(clear hq;go_simp;first|done|rfl|exact ⟨rfl,rfl⟩);(try simp only [zs_,zl_]);go_big_quiet_on)))
   refine wpQuiet_nil ?_
   intro w' M'
   replace M:=Lib.hid M'
   clear M'
   go_wp2_with fail
   go_roundw
   case rel => exact ⟨q + 1,HQL.out,by go_num,M⟩
   case measure => have:=HQL.out;simp [intOf];omega

end Go.Proofs.YtpmfhfpjiebcjaaGreat
