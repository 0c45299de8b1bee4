/- Plain: what money tells: amounts, rates, taxes, shares. -/
namespace Go.Proofs.Mon
def mchk (n : Int) : Int := if n < -1099511627775 then 5 else if 1099511627775 < n then 5 else 0
def rchk (n : Int) : Int := if n < 0 then 5 else if 1000000 < n then 5 else 0
theorem mchk_zero {n : Int} (h : mchk n = 0) : -1099511627775 ≤ n ∧ n ≤ 1099511627775 := by
  unfold mchk at h
  split at h
  · omega
  · split at h
    · omega
    · omega
theorem rchk_zero {n : Int} (h : rchk n = 0) : 0 ≤ n ∧ n ≤ 1000000 := by
  unfold rchk at h
  split at h
  · omega
  · split at h
    · omega
    · omega
end Go.Proofs.Mon
