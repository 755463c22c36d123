/- A part of the proof: SortS. No condition. -/
import Derived.Test.YtchfpiimkmphjaaGreatLayS
import Derived.Test.YtchfpiimkmphjaaGreatVmSo
namespace Go.VM
open Go Go.Proofs Go.RowKit Go.Maps Go.Sort Go.Shelf

theorem sortsA (m : Nat) : AnyZI.SortsIn Tryz.prog Tryz.sortedA_ren Fence.wide m :=
  ⟨fun blk off cap ss W hH hblk hsz => callsIn_wide.2 (AnyM.slices_Sort_int Tryz.sortA blk off cap ss W hH hblk hsz),
   fun p cap W => callsIn_wide.2 (AnyM.slices_Sort_int_none Tryz.sortA p cap W)⟩

theorem iter282 : IterOk Tryz.prog 282 368 := by
  constructor
  · intro B b clk en ns W hcell hmap hst hkeys hlen hnd hrng
    obtain ⟨D, hown, hperm, hsize⟩ := owns_of (P := Tryz.prog) (k := 3) Tryz.underlying3 hmap hst hkeys hlen hnd hrng
    have hBlt : B < W.heap.size := by
      unfold World.cell? at hcell
      split at hcell
      · rename_i h; exact (Array.getElem?_eq_some_iff.1 h).1
      · cases hcell
    have hseq : SeqGives Fence.wide 2 Tryz.prog 368 #[.pointer (some ⟨B, 0, none⟩)] encZ (fun ss => ss.Perm (Go.intKeys D)) (Maps.size D) W :=
      AnyZI.keys_gives (ρ := Tryz.keysA_ren) { Tryz.keysA with } Fence.wide _ trivial rfl (by omega) B b en.size D _ hBlt hcell hown
    have cS := AnyZI.sorted_in Tryz.sortedA Fence.wide 5 trivial trivial trivial trivial rfl (by omega) (sortsA _) (enters_of Tryz.func367 (by kernel_rfl) rfl) 368 #[.pointer (some ⟨B, 0, none⟩)] trivial (enters_of Tryz.func368 (by kernel_rfl) rfl) _ _
      (by rw [hsize]; unfold maxLen; omega) (by rw [hsize]; omega) _ hseq
    have cS2 : CallsIn Fence.wide 5 Tryz.prog 282 _ _ _ := cS
    refine CallsIn.mono (callsIn_wide.2 (callsIn_wide.1 cS2)) ?_
    rintro e w' ⟨v, ss, rfl, hS, hrow, hnil, hb⟩
    have hp : ss.Perm ns := hS.trans hperm
    rw [merge_sortI hp, hp.length_eq] at hrow
    refine ⟨v, _, rfl, hrow, ?_, old_of hb⟩
    rw [hnil]
    constructor
    · intro e; subst e; exact List.Perm.nil_eq hp |>.symm
    · intro e; subst e; exact List.Perm.eq_nil hp
  · intro B W hcell
    have hBlt : B < W.heap.size := by
      unfold World.cell? at hcell
      split at hcell
      · rename_i h; exact (Array.getElem?_eq_some_iff.1 h).1
      · cases hcell
    have hseq : SeqGives Fence.wide 2 Tryz.prog 368 #[.pointer (some ⟨B, 0, none⟩)] encZ (fun ss : List Int => ss = []) 0 W :=
      AnyZI.keys_gives_nil (ρ := Tryz.keysA_ren) { Tryz.keysA with } Fence.wide _ trivial rfl B _ hBlt hcell
    have cS := AnyZI.sorted_in Tryz.sortedA Fence.wide 5 trivial trivial trivial trivial rfl (by omega) (sortsA _) (enters_of Tryz.func367 (by kernel_rfl) rfl) 368 #[.pointer (some ⟨B, 0, none⟩)] trivial (enters_of Tryz.func368 (by kernel_rfl) rfl) _ 0 (Nat.zero_le _) (by omega) _ hseq
    have cS2 : CallsIn Fence.wide 5 Tryz.prog 282 _ _ _ := cS
    refine CallsIn.mono (callsIn_wide.2 (callsIn_wide.1 cS2)) ?_
    rintro e w' ⟨v, ss, rfl, hS, hrow, hnil, hb⟩
    exact ⟨by rw [hnil.2 hS], old_of hb⟩

theorem sum282 : SumOk Tryz.prog 282 (orS [368]) := orS_ok (fun g hg => by
  rcases List.mem_cons.1 hg with rfl | hg
  · exact iter282
  · cases hg)

end Go.VM

