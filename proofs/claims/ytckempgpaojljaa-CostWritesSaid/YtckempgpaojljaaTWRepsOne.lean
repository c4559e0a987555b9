import Derived.Test.YtckempgpaojljaaTWWords
namespace Go.Proofs.YtckempgpaojljaaW.PrintWords
end Go.Proofs.YtckempgpaojljaaW.PrintWords
