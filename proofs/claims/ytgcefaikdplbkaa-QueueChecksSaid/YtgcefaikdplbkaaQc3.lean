/- The evening of the example, played by the plain model; a quiet evening stays as it is. No program in sight. -/
import Derived.Test.YtgcefaikdplbkaaQc2
namespace Go.Proofs.Ytgcefaikdplbkaa
open Go.RowKit

/-- nobody is anywhere but at home -/
structure Quiet (N : Ngt) : Prop where
  t : 0 ≤ N.tick
  r : ∀ x ∈ N.rides, x.on = [] ∧ x.queue = [] ∧ 0 ≤ x.line
  p : ∀ x ∈ N.parties, x.g.came < N.tick ∧ x.comes = -1
theorem Quiet.bo {N : Ngt} (h : Quiet N) (i : Int) : (N.bo i).on = [] ∧ (N.bo i).queue = [] := by
  unfold Ngt.bo
  by_cases hi : i.toNat < N.rides.length
  · have e : N.rides.getD i.toNat Bth.d = N.rides[i.toNat] := by simp [List.getD, hi]
    rw [e]
    have := h.r _ (List.getElem_mem hi)
    exact ⟨this.1, this.2.1⟩
  · have e : N.rides.getD i.toNat Bth.d = Bth.d := by simp [List.getD, hi]
    rw [e]
    exact ⟨rfl, rfl⟩
theorem Quiet.pa {N : Ngt} (h : Quiet N) {g : Int} (hg : g.toNat < N.parties.length) : (N.pa g).g.came < N.tick ∧ (N.pa g).comes = -1 := by
  unfold Ngt.pa
  have e : N.parties.getD g.toNat Pty.d = N.parties[g.toNat] := by simp [List.getD, hg]
  rw [e]
  exact h.p _ (List.getElem_mem hg)
theorem Quiet.end_ {N : Ngt} (h : Quiet N) : N.end_ = N := by
  have e1 : ∀ x ∈ N.rides, x.ends N.tick = false := fun x hx => by
    unfold Bth.ends
    rw [(h.r x hx).1]
    rfl
  have e2 : N.offK N.rides.length = [] := by
    unfold Ngt.offK
    rw [List.take_length, List.flatMap_eq_nil_iff]
    intro x hx
    unfold Bth.off
    rw [e1 x hx, if_neg (by simp)]
  have e3 : N.endK N.rides.length = N := by
    unfold Ngt.endK
    rw [List.take_length, List.drop_length, List.append_nil]
    have : N.rides.map (Bth.end1 N.tick) = N.rides := by
      rw [List.map_congr_left (g := id)]
      · exact List.map_id _
      · intro x hx
        unfold Bth.end1
        rw [e1 x hx, if_neg (by simp)]
        rfl
    rw [this]
  unfold Ngt.end_ Ngt.off
  rw [e2, e3]
  rfl
theorem Quiet.come {N : Ngt} (h : Quiet N) : N.come = N := by
  have eA : (ints N.parties.length).filter N.isA = [] := by
    rw [List.filter_eq_nil_iff]
    intro g hg
    obtain ⟨g0, g1⟩ := ints_mem.1 hg
    have := (h.pa (g := g) (by omega)).1
    unfold Ngt.isA
    rw [decide_eq_true_eq]
    omega
  have eB : (ints N.parties.length).filter N.isB = [] := by
    rw [List.filter_eq_nil_iff]
    intro g hg
    obtain ⟨g0, g1⟩ := ints_mem.1 hg
    have := (h.pa (g := g) (by omega)).2
    have := h.t
    unfold Ngt.isB
    rw [decide_eq_true_eq]
    omega
  unfold Ngt.come
  rw [N.foldA, eA]
  show (List.range N.parties.length).foldl Ngt.comeB N = N
  rw [N.foldB, eB]
  rfl
theorem Quiet.leave {N : Ngt} (h : Quiet N) : N.leave = N := by
  have e2 : N.goneK N.rides.length = [] := by
    unfold Ngt.goneK
    rw [List.take_length, List.flatMap_eq_nil_iff]
    intro x hx
    rw [(h.r x hx).2.1]
    rfl
  have e3 : N.leaveK N.rides.length = N := by
    unfold Ngt.leaveK
    rw [List.take_length, List.drop_length, List.append_nil]
    have : N.rides.map N.stay1 = N.rides := by
      rw [List.map_congr_left (g := id)]
      · exact List.map_id _
      · intro x hx
        unfold Ngt.stay1
        have := (h.r x hx).2.1
        obtain ⟨b, on, begun, ended, queue, takes, line⟩ := x
        simp only at this
        subst this
        rfl
    rw [this]
  unfold Ngt.leave Ngt.gone
  rw [e2, e3]
  rfl
theorem Quiet.begins {N : Ngt} (h : Quiet N) : ∀ k, N.begins k = N
  | 0 => rfl
  | k + 1 => by
    have e1 : N.begins (k + 1) = (N.begins k).begin k := range_fold (f := fun (M : Ngt) (i : Nat) => M.begin i) (b := N) (k := k)
    rw [e1, h.begins k]
    unfold Ngt.begin
    rw [if_pos]
    unfold Ngt.shut
    rw [(h.bo k).2]
    simp
theorem Quiet.tick1 {N : Ngt} (h : Quiet N) : N.tick1 = N.setT (N.tick + 1) := by
  have e1 : N.rest = N := by unfold Ngt.rest; rw [h.end_, h.come, h.leave]
  rw [N.tick1_eq, e1, h.begins]
  congr 1
  unfold Ngt.lineK
  rw [List.take_length, List.drop_length, List.append_nil]
  have : N.rides.map N.line1 = N.rides := by
    rw [List.map_congr_left (g := id)]
    · exact List.map_id _
    · intro x hx
      obtain ⟨_, h2, h3⟩ := h.r x hx
      obtain ⟨b, on, begun, ended, queue, takes, line⟩ := x
      simp only at h2 h3
      subst h2
      have hl : (if line < (0 : Int) then (0 : Int) else line) = line := if_neg (by omega)
      show (⟨b, on, begun, ended, [], takes, if line < (0 : Int) then (0 : Int) else line⟩ : Bth) = _
      rw [hl]
      rfl
  rw [this]
theorem Quiet.next {N : Ngt} (h : Quiet N) : Quiet (N.setT (N.tick + 1)) := by
  have ht := h.t
  exact ⟨by show 0 ≤ N.tick + 1; omega, h.r, fun x hx => ⟨by have := (h.p x hx).1; show x.g.came < N.tick + 1; omega, (h.p x hx).2⟩⟩
theorem Quiet.run {w : Int} {B : List BthG} {G : List Grp} {k : Nat} (h : Quiet (Ngt.run w B G k)) : ∀ j, (Ngt.run w B G (k + j)).rides = (Ngt.run w B G k).rides ∧ (Ngt.run w B G (k + j)).parties = (Ngt.run w B G k).parties ∧ Quiet (Ngt.run w B G (k + j))
  | 0 => ⟨rfl, rfl, h⟩
  | j + 1 => by
    obtain ⟨h1, h2, h3⟩ := h.run j
    have e : Ngt.run w B G (k + (j + 1)) = (Ngt.run w B G (k + j)).setT ((Ngt.run w B G (k + j)).tick + 1) := h3.tick1
    rw [e]
    exact ⟨h1, h2, h3.next⟩

def exB : List BthG := [⟨4, 2, 3, 1, false⟩, ⟨2, 5, 2, 0, false⟩]
def exG : List Grp := [⟨0, 3, 20, [0, 1], 100⟩, ⟨0, 2, 30, [0, 1], 100⟩]
def exN0 : Ngt := ⟨1, [⟨⟨4, 2, 3, 1, false⟩, [], 0, (-1), [], 0, 0⟩, ⟨⟨2, 5, 2, 0, false⟩, [], 0, (-1), [], 0, 0⟩], [⟨⟨0, 3, 20, [0, 1], 100⟩, 0, 20, (-1), (-1)⟩, ⟨⟨0, 2, 30, [0, 1], 100⟩, 0, 30, (-1), (-1)⟩], 0, []⟩
def exN1 : Ngt := ⟨1, [⟨⟨4, 2, 3, 1, false⟩, [], 0, (-1), [], 0, 0⟩, ⟨⟨2, 5, 2, 0, false⟩, [], 0, (-1), [], 0, 0⟩], [⟨⟨0, 3, 20, [0, 1], 100⟩, 0, 20, 1, (-1)⟩, ⟨⟨0, 2, 30, [0, 1], 100⟩, 0, 30, 1, (-1)⟩], 1, []⟩
def exN2 : Ngt := ⟨1, [⟨⟨4, 2, 3, 1, false⟩, [0], 1, (-1), [(1, 1)], 6, 2⟩, ⟨⟨2, 5, 2, 0, false⟩, [], 0, (-1), [], 0, 0⟩], [⟨⟨0, 3, 20, [0, 1], 100⟩, 1, 14, (-1), (-1)⟩, ⟨⟨0, 2, 30, [0, 1], 100⟩, 0, 30, (-1), (-1)⟩], 2, [(0, 0, 0, true, 1, 1)]⟩
def exN3 : Ngt := ⟨1, [⟨⟨4, 2, 3, 1, false⟩, [0], 1, (-1), [(1, 1)], 6, 2⟩, ⟨⟨2, 5, 2, 0, false⟩, [], 0, (-1), [], 0, 0⟩], [⟨⟨0, 3, 20, [0, 1], 100⟩, 1, 14, (-1), (-1)⟩, ⟨⟨0, 2, 30, [0, 1], 100⟩, 0, 30, (-1), (-1)⟩], 3, [(0, 0, 0, true, 1, 1)]⟩
def exN4 : Ngt := ⟨1, [⟨⟨4, 2, 3, 1, false⟩, [0], 1, (-1), [(1, 1)], 6, 2⟩, ⟨⟨2, 5, 2, 0, false⟩, [], 0, (-1), [], 0, 0⟩], [⟨⟨0, 3, 20, [0, 1], 100⟩, 1, 14, (-1), (-1)⟩, ⟨⟨0, 2, 30, [0, 1], 100⟩, 0, 30, (-1), (-1)⟩], 4, [(0, 0, 0, true, 1, 1)]⟩
def exN5 : Ngt := ⟨1, [⟨⟨4, 2, 3, 1, false⟩, [], 1, 4, [(1, 1)], 6, 2⟩, ⟨⟨2, 5, 2, 0, false⟩, [], 0, (-1), [], 0, 0⟩], [⟨⟨0, 3, 20, [0, 1], 100⟩, 1, 14, 5, (-1)⟩, ⟨⟨0, 2, 30, [0, 1], 100⟩, 0, 30, (-1), (-1)⟩], 5, [(0, 0, 0, true, 1, 1)]⟩
def exN6 : Ngt := ⟨1, [⟨⟨4, 2, 3, 1, false⟩, [1], 5, 4, [], 10, 2⟩, ⟨⟨2, 5, 2, 0, false⟩, [], 0, (-1), [], 0, 0⟩], [⟨⟨0, 3, 20, [0, 1], 100⟩, 2, 14, (-1), 5⟩, ⟨⟨0, 2, 30, [0, 1], 100⟩, 1, 26, (-1), (-1)⟩], 6, [(0, 0, 0, true, 1, 1), (1, 0, 0, true, 1, 5), (0, 1, 1, false, 5, 5)]⟩
def exN7 : Ngt := ⟨1, [⟨⟨4, 2, 3, 1, false⟩, [1], 5, 4, [], 10, 2⟩, ⟨⟨2, 5, 2, 0, false⟩, [], 0, (-1), [], 0, 0⟩], [⟨⟨0, 3, 20, [0, 1], 100⟩, 2, 14, (-1), 5⟩, ⟨⟨0, 2, 30, [0, 1], 100⟩, 1, 26, (-1), (-1)⟩], 7, [(0, 0, 0, true, 1, 1), (1, 0, 0, true, 1, 5), (0, 1, 1, false, 5, 5)]⟩
def exN8 : Ngt := ⟨1, [⟨⟨4, 2, 3, 1, false⟩, [1], 5, 4, [], 10, 2⟩, ⟨⟨2, 5, 2, 0, false⟩, [], 0, (-1), [], 0, 0⟩], [⟨⟨0, 3, 20, [0, 1], 100⟩, 2, 14, (-1), 5⟩, ⟨⟨0, 2, 30, [0, 1], 100⟩, 1, 26, (-1), (-1)⟩], 8, [(0, 0, 0, true, 1, 1), (1, 0, 0, true, 1, 5), (0, 1, 1, false, 5, 5)]⟩
def exN9 : Ngt := ⟨1, [⟨⟨4, 2, 3, 1, false⟩, [], 5, 8, [], 10, 2⟩, ⟨⟨2, 5, 2, 0, false⟩, [], 0, (-1), [], 0, 0⟩], [⟨⟨0, 3, 20, [0, 1], 100⟩, 2, 14, (-1), 5⟩, ⟨⟨0, 2, 30, [0, 1], 100⟩, 1, 26, 9, (-1)⟩], 9, [(0, 0, 0, true, 1, 1), (1, 0, 0, true, 1, 5), (0, 1, 1, false, 5, 5)]⟩
def exN10 : Ngt := ⟨1, [⟨⟨4, 2, 3, 1, false⟩, [], 5, 8, [], 10, 2⟩, ⟨⟨2, 5, 2, 0, false⟩, [1], 9, (-1), [], 10, 0⟩], [⟨⟨0, 3, 20, [0, 1], 100⟩, 2, 14, (-1), 5⟩, ⟨⟨0, 2, 30, [0, 1], 100⟩, 2, 16, (-1), (-1)⟩], 10, [(0, 0, 0, true, 1, 1), (1, 0, 0, true, 1, 5), (0, 1, 1, false, 5, 5), (1, 1, 1, true, 9, 9)]⟩
def exN11 : Ngt := ⟨1, [⟨⟨4, 2, 3, 1, false⟩, [], 5, 8, [], 10, 2⟩, ⟨⟨2, 5, 2, 0, false⟩, [1], 9, (-1), [], 10, 0⟩], [⟨⟨0, 3, 20, [0, 1], 100⟩, 2, 14, (-1), 5⟩, ⟨⟨0, 2, 30, [0, 1], 100⟩, 2, 16, (-1), (-1)⟩], 11, [(0, 0, 0, true, 1, 1), (1, 0, 0, true, 1, 5), (0, 1, 1, false, 5, 5), (1, 1, 1, true, 9, 9)]⟩
def exN12 : Ngt := ⟨1, [⟨⟨4, 2, 3, 1, false⟩, [], 5, 8, [], 10, 2⟩, ⟨⟨2, 5, 2, 0, false⟩, [], 9, 11, [], 10, 0⟩], [⟨⟨0, 3, 20, [0, 1], 100⟩, 2, 14, (-1), 5⟩, ⟨⟨0, 2, 30, [0, 1], 100⟩, 2, 16, (-1), 11⟩], 12, [(0, 0, 0, true, 1, 1), (1, 0, 0, true, 1, 5), (0, 1, 1, false, 5, 5), (1, 1, 1, true, 9, 9)]⟩
theorem ex_0 : Ngt.run 1 exB exG 0 = exN0 := rfl
theorem exT0 : exN0.tick1 = exN1 := by kernel_rfl
theorem ex_1 : Ngt.run 1 exB exG 1 = exN1 := (congrArg Ngt.tick1 ex_0).trans exT0
theorem exT1 : exN1.tick1 = exN2 := by kernel_rfl
theorem ex_2 : Ngt.run 1 exB exG 2 = exN2 := (congrArg Ngt.tick1 ex_1).trans exT1
theorem exT2 : exN2.tick1 = exN3 := by kernel_rfl
theorem ex_3 : Ngt.run 1 exB exG 3 = exN3 := (congrArg Ngt.tick1 ex_2).trans exT2
theorem exT3 : exN3.tick1 = exN4 := by kernel_rfl
theorem ex_4 : Ngt.run 1 exB exG 4 = exN4 := (congrArg Ngt.tick1 ex_3).trans exT3
theorem exT4 : exN4.tick1 = exN5 := by kernel_rfl
theorem ex_5 : Ngt.run 1 exB exG 5 = exN5 := (congrArg Ngt.tick1 ex_4).trans exT4
theorem exT5 : exN5.tick1 = exN6 := by kernel_rfl
theorem ex_6 : Ngt.run 1 exB exG 6 = exN6 := (congrArg Ngt.tick1 ex_5).trans exT5
theorem exT6 : exN6.tick1 = exN7 := by kernel_rfl
theorem ex_7 : Ngt.run 1 exB exG 7 = exN7 := (congrArg Ngt.tick1 ex_6).trans exT6
theorem exT7 : exN7.tick1 = exN8 := by kernel_rfl
theorem ex_8 : Ngt.run 1 exB exG 8 = exN8 := (congrArg Ngt.tick1 ex_7).trans exT7
theorem exT8 : exN8.tick1 = exN9 := by kernel_rfl
theorem ex_9 : Ngt.run 1 exB exG 9 = exN9 := (congrArg Ngt.tick1 ex_8).trans exT8
theorem exT9 : exN9.tick1 = exN10 := by kernel_rfl
theorem ex_10 : Ngt.run 1 exB exG 10 = exN10 := (congrArg Ngt.tick1 ex_9).trans exT9
theorem exT10 : exN10.tick1 = exN11 := by kernel_rfl
theorem ex_11 : Ngt.run 1 exB exG 11 = exN11 := (congrArg Ngt.tick1 ex_10).trans exT10
theorem exT11 : exN11.tick1 = exN12 := by kernel_rfl
theorem ex_12 : Ngt.run 1 exB exG 12 = exN12 := (congrArg Ngt.tick1 ex_11).trans exT11
theorem ex_quiet : Quiet (Ngt.run 1 exB exG 12) := by
  rw [ex_12]
  refine ⟨by decide, fun x hx => ?_, fun x hx => ?_⟩
  · rcases List.mem_cons.1 hx with rfl | hx
    · exact ⟨rfl, rfl, by decide⟩
    · rw [List.mem_singleton.1 hx]
      exact ⟨rfl, rfl, by decide⟩
  · rcases List.mem_cons.1 hx with rfl | hx
    · exact ⟨by decide, rfl⟩
    · rw [List.mem_singleton.1 hx]
      exact ⟨by decide, rfl⟩
theorem Ngt.last_parties (N : Ngt) : N.last.parties = N.parties := rfl
theorem Ngt.last_rides (N : Ngt) : N.last.rides = N.rides := rfl
theorem Ngt.last_visits (N : Ngt) : N.last.visits = vsort N.visits := rfl
theorem played_parties (w : Int) (B : List BthG) (G : List Grp) : (Ngt.played w B G).parties = (Ngt.run w B G 4001).parties := Ngt.last_parties _
theorem played_rides (w : Int) (B : List BthG) (G : List Grp) : (Ngt.played w B G).rides = (Ngt.run w B G 4001).rides := Ngt.last_rides _
theorem played_visits (w : Int) (B : List BthG) (G : List Grp) : (Ngt.played w B G).visits = vsort (Ngt.run w B G 4001).visits := Ngt.last_visits _
theorem ex_late {k : Nat} (hk : 12 ≤ k) : (Ngt.run 1 exB exG k).parties = exN12.parties := by
  obtain ⟨j, rfl⟩ : ∃ j, k = 12 + j := ⟨k - 12, by omega⟩
  rw [(ex_quiet.run j).2.1, ex_12]
theorem ex_held : (Ngt.played 1 exB exG).parties.map Pty.purse = [14, 16] := by
  rw [played_parties, ex_late (by omega)]
  rfl
theorem ex_chk : chkQ 1 exB exG = 0 := by kernel_rfl
end Go.Proofs.Ytgcefaikdplbkaa
