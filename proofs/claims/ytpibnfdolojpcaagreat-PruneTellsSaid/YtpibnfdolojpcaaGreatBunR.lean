import Derived.Test.YtpibnfdolojpcaaGreatBunP
namespace Go.Proofs.YtpibnfdolojpcaaGreat
open Go.Proofs.Tryz
open Go.ChangeShapes Go.WideShapes Go.ChangeAt Go.RowKit
theorem lY.at_ {w:World} {A:Option Addr} {l:List au} (h:lY w A l) {k:Nat} (hk:k<l.length):∃b o,A=some ⟨b,o,none⟩/\b<w.heap.size/\w.cell? ⟨b,o+k*4,none⟩=some (.int .i64 l[k].dir)/\w.cell? ⟨b,o+k*4+1,none⟩=some (.string (bs l[k].name))/\w.cell? ⟨b,o+k*4+2,none⟩=some (.int .i64 l[k].no)/\w.cell? ⟨b,o+k*4+3,none⟩=some (.int .i64 l[k].depth):=by
 rcases h with h|⟨b,o,hA,hb,hc⟩
 ·rw[h]at hk;cases hk
 ·exact⟨b,o,hA,hb,hc k hk 0 (by decide),hc k hk 1 (by decide),hc k hk 2 (by decide),hc k hk 3 (by decide)⟩
end Go.Proofs.YtpibnfdolojpcaaGreat
