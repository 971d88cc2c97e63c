-- All of these words.
import Derived.Test.YtjkeagcenmmknaaDoorV0
