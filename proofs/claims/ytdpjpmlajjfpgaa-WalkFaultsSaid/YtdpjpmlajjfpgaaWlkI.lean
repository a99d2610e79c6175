/- A walk that finds no page where one is wanted is a fault, at each of its looks. -/
import Derived.Test.YtdpjpmlajjfpgaaWlkHa
import Derived.Test.YtdpjpmlajjfpgaaWlkHb
namespace Go.Proofs.Ytdpjpmlajjfpgaa.Ram
open Go.RowKit
theorem faults_any (w : World) (L Kd R P : Int) (hL : 0 ≤ L ∧ L ≤ 255) (hK : 0 ≤ Kd ∧ Kd ≤ 255) (hR : 0 ≤ R ∧ R ≤ 255) (hP : 0 ≤ P ∧ P ≤ 65535) :
    Calls Try.prog 9 #[.int .u8 L, .int .u8 Kd, .int .u8 R, .int .u16 P] w fun e w' => e = .returned (.bool true) ∧ Below w.heap.size w w' := by
  rcases (show L % 4 = 0 ∨ L % 4 = 1 ∨ L % 4 = 2 ∨ L % 4 = 3 by omega) with h | h | h | h
  · rcases (show Kd % 4 = 0 ∨ Kd % 4 = 1 ∨ 2 ≤ Kd % 4 by omega) with k | k | k
    · exact faults_0a w L Kd R P hL hK hR hP h k
    · exact faults_0b w L Kd R P hL hK hR hP h k
    · exact faults_0c w L Kd R P hL hK hR hP h _ rfl k
  · rcases (show Kd % 4 = 0 ∨ Kd % 4 = 1 ∨ 2 ≤ Kd % 4 by omega) with k | k | k
    · exact faults_1a w L Kd R P hL hK hR hP h k
    · exact faults_1b w L Kd R P hL hK hR hP h k
    · exact faults_1c w L Kd R P hL hK hR hP h _ rfl k
  · rcases (show Kd % 4 = 0 ∨ Kd % 4 = 1 ∨ 2 ≤ Kd % 4 by omega) with k | k | k
    · exact faults_2a w L Kd R P hL hK hR hP h k
    · exact faults_2b w L Kd R P hL hK hR hP h k
    · exact faults_2c w L Kd R P hL hK hR hP h _ rfl k
  · exact faults_3 w L Kd R P hL hK hR hP h
end Go.Proofs.Ytdpjpmlajjfpgaa.Ram
